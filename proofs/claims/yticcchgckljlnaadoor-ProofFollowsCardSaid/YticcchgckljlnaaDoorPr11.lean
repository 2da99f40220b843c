import Derived.WalkKit
import Derived.WalkSpells
import Derived.Laws.Pointers
import Derived.RowKit3
import Derived.Below
import Derived.Outline
import Derived.LoopN
import Derived.Lib.Hide
import Derived.Handy
import Derived.Laws.Bits64b
import Derived.Test.YticcchgckljlnaaDoorPr13
import Derived.Test.YticcchgckljlnaaDoorPr4
import Derived.Test.YticcchgckljlnaaDoorJoinB
import Derived.Test.YticcchgckljlnaaDoorTr3
import Derived.Test.YticcchgckljlnaaDoorPr10
set_option linter.unusedSimpArgs false
set_option linter.unusedVariables false
namespace Go.Proofs.Yb
open Go Go.RowKit Go.Proofs.Num
attribute [local irreducible] wpV wpN wpList
theorem if_self {α : Type} [DecidableEq α] {x : List α} : (if x = [] then [] else x) = x := by
  split
  · rename_i h; exact h.symm
  · rfl
theorem oldF_32 (b : Bool) (x s : List UInt8) (h : s.length = 32) : (oldF b x s).length = 32 := by
  unfold oldF
  split
  · exact nodeS_len _ _
  · exact h
theorem nodeF_32 (b : Bool) (x s : List UInt8) (_h : s.length = 32) : (nodeF b x s).length = 32 := by
  unfold nodeF
  split <;> exact nodeS_len _ _
theorem foldZ_32 {f : Bool → List UInt8 → List UInt8 → List UInt8} (hf : ∀ b x s, s.length = 32 → (f b x s).length = 32) : ∀ (bs : List Bool) (ps : List (List UInt8)) (s : List UInt8), s.length = 32 → (foldZ f bs ps s).length = 32
  | [], ps, s, h => by cases ps <;> exact h
  | b :: bs, [], s, h => h
  | b :: bs, x :: ps, s, h => foldZ_32 hf bs ps _ (hf b x s h)
theorem followT_le {f : Bool → List UInt8 → List UInt8 → List UInt8} (hf : ∀ b x s, s.length = 32 → (f b x s).length = 32) {m n : Nat} {old : List UInt8} {st : List (List UInt8)} {wh : Bool} (ho : old.length = 32) (h32 : ∀ s ∈ st, s.length = 32) : (followT f m n old st wh).length ≤ 32 := by
  unfold followT foldS
  split
  · split
    · exact Nat.le_of_eq (foldZ_32 hf _ _ _ ho)
    · exact Nat.zero_le _
  · cases st with
    | nil => exact Nat.zero_le _
    | cons s0 rest =>
      simp only
      split
      · exact Nat.le_of_eq (foldZ_32 hf _ _ _ (h32 s0 (List.mem_cons_self ..)))
      · exact Nat.zero_le _
set_option maxHeartbeats 4000000 in
theorem rfold_c : ∀ (N : Nat) {st : List (List UInt8)} {ap : Option Addr} {np cp : Nat} {old : List UInt8} {mm n : Nat} {wh : Bool} {w : World} (hN : n = N) (h1 : 1 ≤ mm) (hmn : mm ≤ n) (hn : n ≤ 4096) (hol : old.length = 32) (hq : st.length ≤ 4611686018427387904) (h32 : ∀ s ∈ st, s.length = 32) (Hp : RowA w ap np cp (scells st)),
    Calls Tryd.prog 68 #[.int .i64 ((mm : Nat) : Int), .int .i64 ((n : Nat) : Int), .string (bs old), .slice ap np cp, .bool wh] w fun e w' => e = .returned (.string (bs (followT oldF mm n old st wh))) ∧ Below w.heap.size w w' := by
  intro N
  induction N using Nat.strongRecOn with
  | _ N ih =>
    intro st ap np cp old m n wh w hN h1 hmn hn hol hq h32 Hp
    subst hN
    obtain rfl : np = st.length := by have := Hp.len; rwa [scells_len] at this
    have hone : old ≠ [] := fun e9 => by rw [e9] at hol; cases hol
    have hne : ∀ s ∈ st.take (st.length - 1), s ≠ [] := fun s9 h9 e9 => by have := h32 s9 (List.mem_of_mem_take h9); rw [e9] at this; cases this
    go_enter Tryd.func68, Tryd.ntmps68
    have M := Mem.start w
    refine wp_seq_k (fun K1 hK1 => ?_)
    refine wp_region_seq ?_
    refine wpL_assign (v := .string (bs ([]))) (by rfl) (by rfl) (by rfl) ?_
    simp only [putT, List.set]
    refine wpL_nil (no_panic ?_)
    refine hK1 _ _ ?_
    refine wp_seq_k (fun K3 hK3 => ?_)
    refine wp_seq_k (fun K4 hK4 => ?_)
    refine wp_region_seq ?_
    refine wpL_move (v := .int .i64 ((m : Nat) : Int)) (by rfl) (by rfl) (by rfl) ?_
    simp only [putT, List.set]
    refine wpL_move (v := .int .i64 ((n : Nat) : Int)) (by rfl) (by rfl) (by rfl) ?_
    simp only [putT, List.set]
    refine wpL_chunk 1 (by rfl) (fun Lk hLk => ?_)
    simp only [List.take, List.drop]
    refine wpV_bin (v := .bool (decide (m = n))) (by rfl) rfl rfl rfl (fun W => run_eqlN m n _ _ W) ?_
    simp only [putT, List.set]
    refine wpV_nil (hLk _ (fun w6 Sw6 => ?_))
    clear hLk Lk
    simp only [List.take, List.drop]
    replace M := M.sees Sw6
    refine wpL_nil (no_panic ?_)
    refine hK4 _ _ ?_
    cases hc7 : (decide (m = n))
    · skip
      have hmn2 : ¬ m = n := of_decide_eq_false hc7
      have h2 : 2 ≤ n := by omega
      have hlt : m < n := by omega
      have hsl := splitN_lt h2
      have hsp := splitN_pos n
      refine wp_cond_false rfl ?_
      refine wp_skip ?_
      refine hK3 _ _ ?_
      refine wp_seq_k (fun K8 hK8 => ?_)
      refine wp_seq_k (fun K9 hK9 => ?_)
      refine wp_region_seq ?_
      refine wpL_move (v := .slice ap st.length cp) (by rfl) (by rfl) (by rfl) ?_
      simp only [putT, List.set]
      refine wpL_chunk 2 (by rfl) (fun Lk hLk => ?_)
      simp only [List.take, List.drop]
      refine wpV_lenA (n := st.length) (by rfl) rfl rfl rfl Tryd.underlying48 ?_
      simp only [putT, List.set]
      refine wpV_bin (v := .bool (decide (st.length = 0))) (by rfl) rfl rfl rfl (fun W => run_eqlN st.length 0 _ _ W) ?_
      simp only [putT, List.set]
      refine wpV_nil (hLk _ (fun w11 Sw11 => ?_))
      clear hLk Lk
      simp only [List.take, List.drop]
      replace M := M.sees Sw11
      refine wpL_nil (no_panic ?_)
      refine hK9 _ _ ?_
      cases hc12 : (decide (st.length = 0))
      · skip
        have hp0 : ¬ st.length = 0 := of_decide_eq_false hc12
        have eps := last_split (by omega : 1 ≤ st.length)
        refine wp_cond_false rfl ?_
        refine wp_skip ?_
        refine hK8 _ _ ?_
        refine wp_seq_k (fun K13 hK13 => ?_)
        refine wp_region_seq ?_
        refine wpL_move (v := .slice ap st.length cp) (by rfl) (by rfl) (by rfl) ?_
        simp only [putT, List.set]
        refine wpL_move (v := .slice ap st.length cp) (by rfl) (by rfl) (by rfl) ?_
        simp only [putT, List.set]
        refine wpL_chunk 4 (by rfl) (fun Lk hLk => ?_)
        simp only [List.take, List.drop]
        refine wpV_lenA (n := st.length) (by rfl) rfl rfl rfl Tryd.underlying48 ?_
        simp only [putT, List.set]
        refine wpV_bin (v := .int .i64 ((st.length - 1 : Nat) : Int)) (by rfl) rfl rfl rfl (fun W => run_sub (by simp only [IntKind.wrap_i64]; omega) W) ?_
        simp only [putT, List.set]
        refine wpV_idxA (i := st.length - 1) (by rfl) rfl rfl rfl Tryd.underlying48 info9 (M.oldA Hp) (by omega) ?_
        simp only [putT, List.set]
        refine wpV_loadA (i := st.length - 1) (v := .string (bs (st.getD (st.length - 1) []))) (by rfl) rfl rfl (M.oldA Hp) (scells_get (ps := st) (by omega)) Tryd.underlying9 rfl ?_
        simp only [putT, List.set]
        refine wpV_nil (hLk _ (fun w15 Sw15 => ?_))
        clear hLk Lk
        simp only [List.take, List.drop]
        replace M := M.sees Sw15
        refine wpL_assign (v := .string (bs (st.getD (st.length - 1) []))) (by rfl) (by rfl) (by rfl) ?_
        simp only [putT, List.set]
        refine wpL_nil (no_panic ?_)
        refine hK13 _ _ ?_
        refine wp_seq_k (fun K16 hK16 => ?_)
        refine wp_region_seq ?_
        refine wpL_move (v := .slice ap st.length cp) (by rfl) (by rfl) (by rfl) ?_
        simp only [putT, List.set]
        refine wpL_move (v := .slice ap st.length cp) (by rfl) (by rfl) (by rfl) ?_
        simp only [putT, List.set]
        refine wpL_chunk 3 (by rfl) (fun Lk hLk => ?_)
        simp only [List.take, List.drop]
        refine wpV_lenA (n := st.length) (by rfl) rfl rfl rfl Tryd.underlying48 ?_
        simp only [putT, List.set]
        refine wpV_bin (v := .int .i64 ((st.length - 1 : Nat) : Int)) (by rfl) rfl rfl rfl (fun W => run_sub (by simp only [IntKind.wrap_i64]; omega) W) ?_
        simp only [putT, List.set]
        refine wpV_slcH (hi := st.length - 1) (by rfl) rfl rfl rfl Tryd.underlying48 info9 (Nat.le_trans (Nat.sub_le _ _) (M.oldA Hp).cap) ?_
        simp only [putT, List.set]
        refine wpV_nil (hLk _ (fun w18 Sw18 => ?_))
        clear hLk Lk
        simp only [List.take, List.drop]
        replace M := M.sees Sw18
        refine wpL_assign (v := .slice ap (st.length - 1) cp) (by rfl) (by rfl) (by rfl) ?_
        simp only [putT, List.set]
        refine wpL_nil (no_panic ?_)
        refine hK16 _ _ ?_
        refine wp_seq_k (fun K19 hK19 => ?_)
        refine wp_region_seq ?_
        refine wpL_move (v := .int .i64 ((n : Nat) : Int)) (by rfl) (by rfl) (by rfl) ?_
        simp only [putT, List.set]
        refine wpL_chunk 1 (by rfl) (fun Lk hLk => ?_)
        simp only [List.take, List.drop]
        refine wpV_callf (v := .int .i64 ((splitN n : Nat) : Int)) (args := #[.int .i64 ((n : Nat) : Int)]) (by rfl) rfl Tryd.func54 (by kernel_rfl) (by kernel_rfl) rfl (fun W hW => rsplit_c (n := n) h2 (by omega)) ?_
        simp only [putT, List.set]
        refine wpV_nil (hLk _ (fun w21 Sw21 => ?_))
        clear hLk Lk
        simp only [List.take, List.drop]
        replace M := M.sees Sw21
        refine wpL_assign (v := .int .i64 ((splitN n : Nat) : Int)) (by rfl) (by rfl) (by rfl) ?_
        simp only [putT, List.set]
        refine wpL_nil (no_panic ?_)
        refine hK19 _ _ ?_
        refine wp_seq_k (fun K22 hK22 => ?_)
        refine wp_seq_k (fun K23 hK23 => ?_)
        refine wp_region_seq ?_
        refine wpL_move (v := .int .i64 ((m : Nat) : Int)) (by rfl) (by rfl) (by rfl) ?_
        simp only [putT, List.set]
        refine wpL_move (v := .int .i64 ((splitN n : Nat) : Int)) (by rfl) (by rfl) (by rfl) ?_
        simp only [putT, List.set]
        refine wpL_chunk 1 (by rfl) (fun Lk hLk => ?_)
        simp only [List.take, List.drop]
        refine wpV_bin (v := .bool (decide (m ≤ splitN n))) (by rfl) rfl rfl rfl (fun W => run_leqN m (splitN n) _ _ W) ?_
        simp only [putT, List.set]
        refine wpV_nil (hLk _ (fun w25 Sw25 => ?_))
        clear hLk Lk
        simp only [List.take, List.drop]
        replace M := M.sees Sw25
        refine wpL_nil (no_panic ?_)
        refine hK23 _ _ ?_
        cases hc26 : (decide (m ≤ splitN n))
        · skip
          have hik : ¬ m ≤ splitN n := of_decide_eq_false hc26
          refine wp_cond_false rfl ?_
          refine wp_skip ?_
          refine hK22 _ _ ?_
          refine wp_seq_k (fun K27 hK27 => ?_)
          refine wp_region_seq ?_
          refine wpL_move (v := .int .i64 ((m : Nat) : Int)) (by rfl) (by rfl) (by rfl) ?_
          simp only [putT, List.set]
          refine wpL_move (v := .int .i64 ((splitN n : Nat) : Int)) (by rfl) (by rfl) (by rfl) ?_
          simp only [putT, List.set]
          refine wpL_chunk 7 (by rfl) (fun Lk hLk => ?_)
          simp only [List.take, List.drop]
          refine wpV_bin (v := .int .i64 ((m - (splitN n) : Nat) : Int)) (by rfl) rfl rfl rfl (fun W => run_sub (by simp only [IntKind.wrap_i64]; omega) W) ?_
          simp only [putT, List.set]
          refine wpV_move (v := .int .i64 ((n : Nat) : Int)) (by rfl) rfl rfl ?_
          simp only [putT, List.set]
          refine wpV_move (v := .int .i64 ((splitN n : Nat) : Int)) (by rfl) rfl rfl ?_
          simp only [putT, List.set]
          refine wpV_bin (v := .int .i64 ((n - (splitN n) : Nat) : Int)) (by rfl) rfl rfl rfl (fun W => run_sub (by simp only [IntKind.wrap_i64]; omega) W) ?_
          simp only [putT, List.set]
          refine wpV_move (v := .string (bs old)) (by rfl) rfl rfl ?_
          simp only [putT, List.set]
          refine wpV_move (v := .slice ap (st.length - 1) cp) (by rfl) rfl rfl ?_
          simp only [putT, List.set]
          refine wpV_callf (v := .string (bs (followT oldF (m - (splitN n)) (n - (splitN n)) old (st.take (st.length - 1)) false))) (args := #[.int .i64 ((m - (splitN n) : Nat) : Int), .int .i64 ((n - (splitN n) : Nat) : Int), .string (bs old), .slice ap (st.length - 1) cp, .bool false]) (by rfl) rfl Tryd.func68 (by kernel_rfl) (by kernel_rfl) rfl (fun W hW => ih (n - (splitN n)) (by omega) (st := st.take (st.length - 1)) (old := old) (mm := m - (splitN n)) (wh := false) rfl (by omega) (by omega) (by omega) hol (by rw [List.length_take]; omega) (fun s9 h9 => h32 s9 (List.mem_of_mem_take h9)) ((((M.sees hW).oldA Hp).take (Nat.sub_le _ _)).eq (scells_take2 _ _))) ?_
          simp only [putT, List.set]
          refine wpV_nil (hLk _ (fun w29 Sw29 => ?_))
          clear hLk Lk
          simp only [List.take, List.drop]
          replace M := M.sees Sw29
          refine wpL_assign (v := .string (bs (followT oldF (m - (splitN n)) (n - (splitN n)) old (st.take (st.length - 1)) false))) (by rfl) (by rfl) (by rfl) ?_
          simp only [putT, List.set]
          refine wpL_nil (no_panic ?_)
          refine hK27 _ _ ?_
          refine wp_seq_k (fun K30 hK30 => ?_)
          refine wp_seq_k (fun K31 hK31 => ?_)
          refine wp_region_seq ?_
          refine wpL_move (v := .string (bs (followT oldF (m - (splitN n)) (n - (splitN n)) old (st.take (st.length - 1)) false))) (by rfl) (by rfl) (by rfl) ?_
          simp only [putT, List.set]
          refine wpL_chunk 1 (by rfl) (fun Lk hLk => ?_)
          simp only [List.take, List.drop]
          refine wpV_binS (v := .bool (decide (followT oldF (m - (splitN n)) (n - (splitN n)) old (st.take (st.length - 1)) false = []))) (by rfl) rfl rfl rfl (run_eql_bs _ _ _) ?_
          simp only [putT, List.set]
          refine wpV_nil (hLk _ (fun w33 Sw33 => ?_))
          clear hLk Lk
          simp only [List.take, List.drop]
          replace M := M.sees Sw33
          refine wpL_nil (no_panic ?_)
          refine hK31 _ _ ?_
          cases hc34 : (decide (followT oldF (m - (splitN n)) (n - (splitN n)) old (st.take (st.length - 1)) false = []))
          · skip
            have hem : ¬ followT oldF (m - (splitN n)) (n - (splitN n)) old (st.take (st.length - 1)) false = [] := of_decide_eq_false hc34
            refine wp_cond_false rfl ?_
            refine wp_skip ?_
            refine hK30 _ _ ?_
            refine wp_seq_k (fun K35 hK35 => ?_)
            refine wp_region_seq ?_
            refine wpL_move (v := .string (bs (st.getD (st.length - 1) []))) (by rfl) (by rfl) (by rfl) ?_
            simp only [putT, List.set]
            refine wpL_move (v := .string (bs (followT oldF (m - (splitN n)) (n - (splitN n)) old (st.take (st.length - 1)) false))) (by rfl) (by rfl) (by rfl) ?_
            simp only [putT, List.set]
            refine wpL_chunk 1 (by rfl) (fun Lk hLk => ?_)
            simp only [List.take, List.drop]
            refine wpV_callf (v := .string (bs (nodeS (st.getD (st.length - 1) []) (followT oldF (m - (splitN n)) (n - (splitN n)) old (st.take (st.length - 1)) false)))) (args := #[.string (bs (st.getD (st.length - 1) [])), .string (bs (followT oldF (m - (splitN n)) (n - (splitN n)) old (st.take (st.length - 1)) false))]) (by rfl) rfl Tryd.func41 (by kernel_rfl) (by kernel_rfl) rfl (fun W hW => rnode_c (a := st.getD (st.length - 1) []) (b := followT oldF (m - (splitN n)) (n - (splitN n)) old (st.take (st.length - 1)) false) (by rw [getD_32 h32 (by omega)]; decide) (Nat.le_trans (followT_le oldF_32 hol (fun s9 h9 => h32 s9 (List.mem_of_mem_take h9))) (by decide))) ?_
            simp only [putT, List.set]
            refine wpV_nil (hLk _ (fun w37 Sw37 => ?_))
            clear hLk Lk
            simp only [List.take, List.drop]
            replace M := M.sees Sw37
            refine wpL_assign (v := .string (bs (nodeS (st.getD (st.length - 1) []) (followT oldF (m - (splitN n)) (n - (splitN n)) old (st.take (st.length - 1)) false)))) (by rfl) (by rfl) (by rfl) ?_
            simp only [putT, List.set]
            refine wpL_nil (no_panic ?_)
            refine hK35 _ _ ?_
            refine wp_ret ?_
            repeat (first | with_reducible refine then_ret ?_ | with_reducible refine inblock_ret ?_)
            refine bodyPost_ret (v := .string (bs (nodeS (st.getD (st.length - 1) []) (followT oldF (m - (splitN n)) (n - (splitN n)) old (st.take (st.length - 1)) false)))) (res1 rfl (.tmp (by rfl))) rfl ?_
            have BE := M.below
            have e9 : followT oldF m n old st wh = _ := ((congrArg (fun q9 => followT oldF m n old q9 wh) eps).trans (followT_right oldF_ne h1 hlt hik hone hne)).trans (if_neg hem)
            exact ⟨by rw [e9]; rfl, BE⟩
          · skip
            have hem : followT oldF (m - (splitN n)) (n - (splitN n)) old (st.take (st.length - 1)) false = [] := of_decide_eq_true hc34
            refine wp_cond_true rfl ?_
            refine wp_seq_k (fun K38 hK38 => ?_)
            refine wp_region_seq ?_
            refine wpL_assign (v := .string (bs ([]))) (by rfl) (by rfl) (by rfl) ?_
            simp only [putT, List.set]
            refine wpL_nil (no_panic ?_)
            refine hK38 _ _ ?_
            refine wp_ret ?_
            repeat (first | with_reducible refine then_ret ?_ | with_reducible refine inblock_ret ?_)
            refine bodyPost_ret (v := .string (bs ([]))) (res1 rfl (.tmp (by rfl))) rfl ?_
            have BE := M.below
            have e9 : followT oldF m n old st wh = [] := ((congrArg (fun q9 => followT oldF m n old q9 wh) eps).trans (followT_right oldF_ne h1 hlt hik hone hne)).trans (if_pos hem)
            exact ⟨by rw [e9], BE⟩
        · skip
          have hik : m ≤ splitN n := of_decide_eq_true hc26
          refine wp_cond_true rfl ?_
          refine wp_seq_k (fun K40 hK40 => ?_)
          refine wp_region_seq ?_
          refine wpL_move (v := .int .i64 ((m : Nat) : Int)) (by rfl) (by rfl) (by rfl) ?_
          simp only [putT, List.set]
          refine wpL_move (v := .int .i64 ((splitN n : Nat) : Int)) (by rfl) (by rfl) (by rfl) ?_
          simp only [putT, List.set]
          refine wpL_move (v := .string (bs old)) (by rfl) (by rfl) (by rfl) ?_
          simp only [putT, List.set]
          refine wpL_move (v := .slice ap (st.length - 1) cp) (by rfl) (by rfl) (by rfl) ?_
          simp only [putT, List.set]
          refine wpL_move (v := .bool wh) (by rfl) (by rfl) (by rfl) ?_
          simp only [putT, List.set]
          refine wpL_chunk 1 (by rfl) (fun Lk hLk => ?_)
          simp only [List.take, List.drop]
          refine wpV_callf (v := .string (bs (followT oldF m (splitN n) old (st.take (st.length - 1)) wh))) (args := #[.int .i64 ((m : Nat) : Int), .int .i64 ((splitN n : Nat) : Int), .string (bs old), .slice ap (st.length - 1) cp, .bool wh]) (by rfl) rfl Tryd.func68 (by kernel_rfl) (by kernel_rfl) rfl (fun W hW => ih (splitN n) (by omega) (st := st.take (st.length - 1)) (old := old) (mm := m) (wh := wh) rfl (by omega) (by omega) (by omega) hol (by rw [List.length_take]; omega) (fun s9 h9 => h32 s9 (List.mem_of_mem_take h9)) ((((M.sees hW).oldA Hp).take (Nat.sub_le _ _)).eq (scells_take2 _ _))) ?_
          simp only [putT, List.set]
          refine wpV_nil (hLk _ (fun w42 Sw42 => ?_))
          clear hLk Lk
          simp only [List.take, List.drop]
          replace M := M.sees Sw42
          refine wpL_assign (v := .string (bs (followT oldF m (splitN n) old (st.take (st.length - 1)) wh))) (by rfl) (by rfl) (by rfl) ?_
          simp only [putT, List.set]
          refine wpL_nil (no_panic ?_)
          refine hK40 _ _ ?_
          refine wp_ret ?_
          repeat (first | with_reducible refine then_ret ?_ | with_reducible refine inblock_ret ?_)
          refine bodyPost_ret (v := .string (bs (followT oldF m (splitN n) old (st.take (st.length - 1)) wh))) (res1 rfl (.tmp (by rfl))) rfl ?_
          have BE := M.below
          have e9 : followT oldF m n old st wh = _ := ((congrArg (fun q9 => followT oldF m n old q9 wh) eps).trans (followT_left oldF_ne h1 hlt hik hone hne)).trans if_self
          exact ⟨by rw [e9], BE⟩
      · skip
        have hp0 : st.length = 0 := of_decide_eq_true hc12
        refine wp_cond_true rfl ?_
        refine wp_seq_k (fun K43 hK43 => ?_)
        refine wp_region_seq ?_
        refine wpL_assign (v := .string (bs ([]))) (by rfl) (by rfl) (by rfl) ?_
        simp only [putT, List.set]
        refine wpL_nil (no_panic ?_)
        refine hK43 _ _ ?_
        refine wp_ret ?_
        repeat (first | with_reducible refine then_ret ?_ | with_reducible refine inblock_ret ?_)
        refine bodyPost_ret (v := .string (bs ([]))) (res1 rfl (.tmp (by rfl))) rfl ?_
        have BE := M.below
        exact ⟨by rw [List.length_eq_zero_iff.1 hp0, followT_nil h1 hlt], BE⟩
    · skip
      have hmn2 : m = n := of_decide_eq_true hc7
      refine wp_cond_true rfl ?_
      refine wp_seq_k (fun K45 hK45 => ?_)
      refine wp_seq_k (fun K46 hK46 => ?_)
      cases hg47 : (wh)
      · skip
        have ewh : wh = false := hg47
        refine wp_region_seq ?_
        refine wpL_move (v := .bool false) (by rfl) (by rfl) (by rfl) ?_
        simp only [putT, List.set]
        refine wpL_move (v := .bool false) (by rfl) (by rfl) (by rfl) ?_
        simp only [putT, List.set]
        refine wpL_chunk 4 (by rfl) (fun Lk hLk => ?_)
        simp only [List.take, List.drop]
        refine wpV_skip (by rfl) (by rfl) ?_
        simp only [putT, List.set]
        refine wpV_skip (by rfl) (by rfl) ?_
        simp only [putT, List.set]
        refine wpV_skip (by rfl) (by rfl) ?_
        simp only [putT, List.set]
        refine wpV_pick (v := .bool false) (by rfl) rfl rfl rfl ?_
        simp only [putT, List.set]
        refine wpV_nil (hLk _ (fun w49 Sw49 => ?_))
        clear hLk Lk
        simp only [List.take, List.drop]
        replace M := M.sees Sw49
        refine wpL_nil (no_panic ?_)
        refine hK46 _ _ ?_
        refine wp_cond_false rfl ?_
        refine wp_skip ?_
        refine hK45 _ _ ?_
        refine wp_seq_k (fun K50 hK50 => ?_)
        refine wp_seq_k (fun K51 hK51 => ?_)
        refine wp_region_seq ?_
        refine wpL_move (v := .bool false) (by rfl) (by rfl) (by rfl) ?_
        simp only [putT, List.set]
        refine wpL_chunk 6 (by rfl) (fun Lk hLk => ?_)
        simp only [List.take, List.drop]
        refine wpV_not (b := false) (by rfl) rfl rfl ?_
        simp only [Bool.not_true, Bool.not_false]
        simp only [putT, List.set]
        refine wpV_move (v := .bool true) (by rfl) rfl rfl ?_
        simp only [putT, List.set]
        refine wpV_move (v := .slice ap st.length cp) (by rfl) rfl rfl ?_
        simp only [putT, List.set]
        refine wpV_lenA (n := st.length) (by rfl) rfl rfl rfl Tryd.underlying48 ?_
        simp only [putT, List.set]
        refine wpV_bin (v := .bool (decide (st.length = 1))) (by rfl) rfl rfl rfl (fun W => run_eqlN st.length 1 _ _ W) ?_
        simp only [putT, List.set]
        refine wpV_pick (v := .bool (decide (st.length = 1))) (by rfl) rfl rfl rfl ?_
        simp only [putT, List.set]
        refine wpV_nil (hLk _ (fun w53 Sw53 => ?_))
        clear hLk Lk
        simp only [List.take, List.drop]
        replace M := M.sees Sw53
        refine wpL_nil (no_panic ?_)
        refine hK51 _ _ ?_
        cases hc54 : (decide (st.length = 1))
        · skip
          have hb1 : ¬ st.length = 1 := of_decide_eq_false hc54
          refine wp_cond_false rfl ?_
          refine wp_skip ?_
          refine hK50 _ _ ?_
          refine wp_seq_k (fun K55 hK55 => ?_)
          refine wp_region_seq ?_
          refine wpL_assign (v := .string (bs ([]))) (by rfl) (by rfl) (by rfl) ?_
          simp only [putT, List.set]
          refine wpL_nil (no_panic ?_)
          refine hK55 _ _ ?_
          refine wp_ret ?_
          repeat (first | with_reducible refine then_ret ?_ | with_reducible refine inblock_ret ?_)
          refine bodyPost_ret (v := .string (bs ([]))) (res1 rfl (.tmp (by rfl))) rfl ?_
          have BE := M.below
          exact ⟨by rw [followT_all (by omega)]; simp only [hg47, hc54, Bool.and_true, Bool.and_false, Bool.true_and, Bool.false_and, Bool.not_true, Bool.not_false, if_true, if_false, Bool.false_eq_true], BE⟩
        · skip
          have hb1 : st.length = 1 := of_decide_eq_true hc54
          refine wp_cond_true rfl ?_
          refine wp_seq_k (fun K57 hK57 => ?_)
          refine wp_region_seq ?_
          refine wpL_move (v := .slice ap st.length cp) (by rfl) (by rfl) (by rfl) ?_
          simp only [putT, List.set]
          refine wpL_chunk 2 (by rfl) (fun Lk hLk => ?_)
          simp only [List.take, List.drop]
          refine wpV_idxA (i := 0) (by rfl) rfl rfl rfl Tryd.underlying48 info9 (M.oldA Hp) (by omega) ?_
          simp only [putT, List.set]
          refine wpV_loadA (i := 0) (v := .string (bs (st.getD 0 []))) (by rfl) rfl rfl (M.oldA Hp) (scells_get (ps := st) (by omega)) Tryd.underlying9 rfl ?_
          simp only [putT, List.set]
          refine wpV_nil (hLk _ (fun w59 Sw59 => ?_))
          clear hLk Lk
          simp only [List.take, List.drop]
          replace M := M.sees Sw59
          refine wpL_assign (v := .string (bs (st.getD 0 []))) (by rfl) (by rfl) (by rfl) ?_
          simp only [putT, List.set]
          refine wpL_nil (no_panic ?_)
          refine hK57 _ _ ?_
          refine wp_ret ?_
          repeat (first | with_reducible refine then_ret ?_ | with_reducible refine inblock_ret ?_)
          refine bodyPost_ret (v := .string (bs (st.getD 0 []))) (res1 rfl (.tmp (by rfl))) rfl ?_
          have BE := M.below
          exact ⟨by rw [followT_all (by omega)]; simp only [hg47, hc54, Bool.and_true, Bool.and_false, Bool.true_and, Bool.false_and, Bool.not_true, Bool.not_false, if_true, if_false, Bool.false_eq_true], BE⟩
      · skip
        have ewh : wh = true := hg47
        refine wp_region_seq ?_
        refine wpL_move (v := .bool true) (by rfl) (by rfl) (by rfl) ?_
        simp only [putT, List.set]
        refine wpL_move (v := .bool true) (by rfl) (by rfl) (by rfl) ?_
        simp only [putT, List.set]
        refine wpL_chunk 4 (by rfl) (fun Lk hLk => ?_)
        simp only [List.take, List.drop]
        refine wpV_move (v := .slice ap st.length cp) (by rfl) rfl rfl ?_
        simp only [putT, List.set]
        refine wpV_lenA (n := st.length) (by rfl) rfl rfl rfl Tryd.underlying48 ?_
        simp only [putT, List.set]
        refine wpV_bin (v := .bool (decide (st.length = 0))) (by rfl) rfl rfl rfl (fun W => run_eqlN st.length 0 _ _ W) ?_
        simp only [putT, List.set]
        refine wpV_pick (v := .bool (decide (st.length = 0))) (by rfl) rfl rfl rfl ?_
        simp only [putT, List.set]
        refine wpV_nil (hLk _ (fun w61 Sw61 => ?_))
        clear hLk Lk
        simp only [List.take, List.drop]
        replace M := M.sees Sw61
        refine wpL_nil (no_panic ?_)
        refine hK46 _ _ ?_
        cases hc62 : (decide (st.length = 0))
        · skip
          have hb0 : ¬ st.length = 0 := of_decide_eq_false hc62
          refine wp_cond_false rfl ?_
          refine wp_skip ?_
          refine hK45 _ _ ?_
          refine wp_seq_k (fun K63 hK63 => ?_)
          refine wp_seq_k (fun K64 hK64 => ?_)
          refine wp_region_seq ?_
          refine wpL_move (v := .bool true) (by rfl) (by rfl) (by rfl) ?_
          simp only [putT, List.set]
          refine wpL_chunk 6 (by rfl) (fun Lk hLk => ?_)
          simp only [List.take, List.drop]
          refine wpV_not (b := true) (by rfl) rfl rfl ?_
          simp only [Bool.not_true, Bool.not_false]
          simp only [putT, List.set]
          refine wpV_move (v := .bool false) (by rfl) rfl rfl ?_
          simp only [putT, List.set]
          refine wpV_skip (by rfl) (by rfl) ?_
          simp only [putT, List.set]
          refine wpV_skip (by rfl) (by rfl) ?_
          simp only [putT, List.set]
          refine wpV_skip (by rfl) (by rfl) ?_
          simp only [putT, List.set]
          refine wpV_pick (v := .bool false) (by rfl) rfl rfl rfl ?_
          simp only [putT, List.set]
          refine wpV_nil (hLk _ (fun w66 Sw66 => ?_))
          clear hLk Lk
          simp only [List.take, List.drop]
          replace M := M.sees Sw66
          refine wpL_nil (no_panic ?_)
          refine hK64 _ _ ?_
          refine wp_cond_false rfl ?_
          refine wp_skip ?_
          refine hK63 _ _ ?_
          refine wp_seq_k (fun K67 hK67 => ?_)
          refine wp_region_seq ?_
          refine wpL_assign (v := .string (bs ([]))) (by rfl) (by rfl) (by rfl) ?_
          simp only [putT, List.set]
          refine wpL_nil (no_panic ?_)
          refine hK67 _ _ ?_
          refine wp_ret ?_
          repeat (first | with_reducible refine then_ret ?_ | with_reducible refine inblock_ret ?_)
          refine bodyPost_ret (v := .string (bs ([]))) (res1 rfl (.tmp (by rfl))) rfl ?_
          have BE := M.below
          exact ⟨by rw [followT_all (by omega)]; simp only [hg47, hc62, Bool.and_true, Bool.and_false, Bool.true_and, Bool.false_and, Bool.not_true, Bool.not_false, if_true, if_false, Bool.false_eq_true], BE⟩
        · skip
          have hb0 : st.length = 0 := of_decide_eq_true hc62
          refine wp_cond_true rfl ?_
          refine wp_seq_k (fun K69 hK69 => ?_)
          refine wp_region_seq ?_
          refine wpL_move (v := .string (bs old)) (by rfl) (by rfl) (by rfl) ?_
          simp only [putT, List.set]
          refine wpL_assign (v := .string (bs old)) (by rfl) (by rfl) (by rfl) ?_
          simp only [putT, List.set]
          refine wpL_nil (no_panic ?_)
          refine hK69 _ _ ?_
          refine wp_ret ?_
          repeat (first | with_reducible refine then_ret ?_ | with_reducible refine inblock_ret ?_)
          refine bodyPost_ret (v := .string (bs old)) (res1 rfl (.tmp (by rfl))) rfl ?_
          have BE := M.below
          exact ⟨by rw [followT_all (by omega)]; simp only [hg47, hc62, Bool.and_true, Bool.and_false, Bool.true_and, Bool.false_and, Bool.not_true, Bool.not_false, if_true, if_false, Bool.false_eq_true], BE⟩
set_option maxHeartbeats 4000000 in
theorem rfnew_c : ∀ (N : Nat) {st : List (List UInt8)} {ap : Option Addr} {np cp : Nat} {old : List UInt8} {mm n : Nat} {wh : Bool} {w : World} (hN : n = N) (h1 : 1 ≤ mm) (hmn : mm ≤ n) (hn : n ≤ 4096) (hol : old.length = 32) (hq : st.length ≤ 4611686018427387904) (h32 : ∀ s ∈ st, s.length = 32) (Hp : RowA w ap np cp (scells st)),
    Calls Tryd.prog 69 #[.int .i64 ((mm : Nat) : Int), .int .i64 ((n : Nat) : Int), .string (bs old), .slice ap np cp, .bool wh] w fun e w' => e = .returned (.string (bs (followT nodeF mm n old st wh))) ∧ Below w.heap.size w w' := by
  intro N
  induction N using Nat.strongRecOn with
  | _ N ih =>
    intro st ap np cp old m n wh w hN h1 hmn hn hol hq h32 Hp
    subst hN
    obtain rfl : np = st.length := by have := Hp.len; rwa [scells_len] at this
    have hone : old ≠ [] := fun e9 => by rw [e9] at hol; cases hol
    have hne : ∀ s ∈ st.take (st.length - 1), s ≠ [] := fun s9 h9 e9 => by have := h32 s9 (List.mem_of_mem_take h9); rw [e9] at this; cases this
    go_enter Tryd.func69, Tryd.ntmps69
    have M := Mem.start w
    refine wp_seq_k (fun K1 hK1 => ?_)
    refine wp_region_seq ?_
    refine wpL_assign (v := .string (bs ([]))) (by rfl) (by rfl) (by rfl) ?_
    simp only [putT, List.set]
    refine wpL_nil (no_panic ?_)
    refine hK1 _ _ ?_
    refine wp_seq_k (fun K3 hK3 => ?_)
    refine wp_seq_k (fun K4 hK4 => ?_)
    refine wp_region_seq ?_
    refine wpL_move (v := .int .i64 ((m : Nat) : Int)) (by rfl) (by rfl) (by rfl) ?_
    simp only [putT, List.set]
    refine wpL_move (v := .int .i64 ((n : Nat) : Int)) (by rfl) (by rfl) (by rfl) ?_
    simp only [putT, List.set]
    refine wpL_chunk 1 (by rfl) (fun Lk hLk => ?_)
    simp only [List.take, List.drop]
    refine wpV_bin (v := .bool (decide (m = n))) (by rfl) rfl rfl rfl (fun W => run_eqlN m n _ _ W) ?_
    simp only [putT, List.set]
    refine wpV_nil (hLk _ (fun w6 Sw6 => ?_))
    clear hLk Lk
    simp only [List.take, List.drop]
    replace M := M.sees Sw6
    refine wpL_nil (no_panic ?_)
    refine hK4 _ _ ?_
    cases hc7 : (decide (m = n))
    · skip
      have hmn2 : ¬ m = n := of_decide_eq_false hc7
      have h2 : 2 ≤ n := by omega
      have hlt : m < n := by omega
      have hsl := splitN_lt h2
      have hsp := splitN_pos n
      refine wp_cond_false rfl ?_
      refine wp_skip ?_
      refine hK3 _ _ ?_
      refine wp_seq_k (fun K8 hK8 => ?_)
      refine wp_seq_k (fun K9 hK9 => ?_)
      refine wp_region_seq ?_
      refine wpL_move (v := .slice ap st.length cp) (by rfl) (by rfl) (by rfl) ?_
      simp only [putT, List.set]
      refine wpL_chunk 2 (by rfl) (fun Lk hLk => ?_)
      simp only [List.take, List.drop]
      refine wpV_lenA (n := st.length) (by rfl) rfl rfl rfl Tryd.underlying48 ?_
      simp only [putT, List.set]
      refine wpV_bin (v := .bool (decide (st.length = 0))) (by rfl) rfl rfl rfl (fun W => run_eqlN st.length 0 _ _ W) ?_
      simp only [putT, List.set]
      refine wpV_nil (hLk _ (fun w11 Sw11 => ?_))
      clear hLk Lk
      simp only [List.take, List.drop]
      replace M := M.sees Sw11
      refine wpL_nil (no_panic ?_)
      refine hK9 _ _ ?_
      cases hc12 : (decide (st.length = 0))
      · skip
        have hp0 : ¬ st.length = 0 := of_decide_eq_false hc12
        have eps := last_split (by omega : 1 ≤ st.length)
        refine wp_cond_false rfl ?_
        refine wp_skip ?_
        refine hK8 _ _ ?_
        refine wp_seq_k (fun K13 hK13 => ?_)
        refine wp_region_seq ?_
        refine wpL_move (v := .slice ap st.length cp) (by rfl) (by rfl) (by rfl) ?_
        simp only [putT, List.set]
        refine wpL_move (v := .slice ap st.length cp) (by rfl) (by rfl) (by rfl) ?_
        simp only [putT, List.set]
        refine wpL_chunk 4 (by rfl) (fun Lk hLk => ?_)
        simp only [List.take, List.drop]
        refine wpV_lenA (n := st.length) (by rfl) rfl rfl rfl Tryd.underlying48 ?_
        simp only [putT, List.set]
        refine wpV_bin (v := .int .i64 ((st.length - 1 : Nat) : Int)) (by rfl) rfl rfl rfl (fun W => run_sub (by simp only [IntKind.wrap_i64]; omega) W) ?_
        simp only [putT, List.set]
        refine wpV_idxA (i := st.length - 1) (by rfl) rfl rfl rfl Tryd.underlying48 info9 (M.oldA Hp) (by omega) ?_
        simp only [putT, List.set]
        refine wpV_loadA (i := st.length - 1) (v := .string (bs (st.getD (st.length - 1) []))) (by rfl) rfl rfl (M.oldA Hp) (scells_get (ps := st) (by omega)) Tryd.underlying9 rfl ?_
        simp only [putT, List.set]
        refine wpV_nil (hLk _ (fun w15 Sw15 => ?_))
        clear hLk Lk
        simp only [List.take, List.drop]
        replace M := M.sees Sw15
        refine wpL_assign (v := .string (bs (st.getD (st.length - 1) []))) (by rfl) (by rfl) (by rfl) ?_
        simp only [putT, List.set]
        refine wpL_nil (no_panic ?_)
        refine hK13 _ _ ?_
        refine wp_seq_k (fun K16 hK16 => ?_)
        refine wp_region_seq ?_
        refine wpL_move (v := .slice ap st.length cp) (by rfl) (by rfl) (by rfl) ?_
        simp only [putT, List.set]
        refine wpL_move (v := .slice ap st.length cp) (by rfl) (by rfl) (by rfl) ?_
        simp only [putT, List.set]
        refine wpL_chunk 3 (by rfl) (fun Lk hLk => ?_)
        simp only [List.take, List.drop]
        refine wpV_lenA (n := st.length) (by rfl) rfl rfl rfl Tryd.underlying48 ?_
        simp only [putT, List.set]
        refine wpV_bin (v := .int .i64 ((st.length - 1 : Nat) : Int)) (by rfl) rfl rfl rfl (fun W => run_sub (by simp only [IntKind.wrap_i64]; omega) W) ?_
        simp only [putT, List.set]
        refine wpV_slcH (hi := st.length - 1) (by rfl) rfl rfl rfl Tryd.underlying48 info9 (Nat.le_trans (Nat.sub_le _ _) (M.oldA Hp).cap) ?_
        simp only [putT, List.set]
        refine wpV_nil (hLk _ (fun w18 Sw18 => ?_))
        clear hLk Lk
        simp only [List.take, List.drop]
        replace M := M.sees Sw18
        refine wpL_assign (v := .slice ap (st.length - 1) cp) (by rfl) (by rfl) (by rfl) ?_
        simp only [putT, List.set]
        refine wpL_nil (no_panic ?_)
        refine hK16 _ _ ?_
        refine wp_seq_k (fun K19 hK19 => ?_)
        refine wp_region_seq ?_
        refine wpL_move (v := .int .i64 ((n : Nat) : Int)) (by rfl) (by rfl) (by rfl) ?_
        simp only [putT, List.set]
        refine wpL_chunk 1 (by rfl) (fun Lk hLk => ?_)
        simp only [List.take, List.drop]
        refine wpV_callf (v := .int .i64 ((splitN n : Nat) : Int)) (args := #[.int .i64 ((n : Nat) : Int)]) (by rfl) rfl Tryd.func54 (by kernel_rfl) (by kernel_rfl) rfl (fun W hW => rsplit_c (n := n) h2 (by omega)) ?_
        simp only [putT, List.set]
        refine wpV_nil (hLk _ (fun w21 Sw21 => ?_))
        clear hLk Lk
        simp only [List.take, List.drop]
        replace M := M.sees Sw21
        refine wpL_assign (v := .int .i64 ((splitN n : Nat) : Int)) (by rfl) (by rfl) (by rfl) ?_
        simp only [putT, List.set]
        refine wpL_nil (no_panic ?_)
        refine hK19 _ _ ?_
        refine wp_seq_k (fun K22 hK22 => ?_)
        refine wp_seq_k (fun K23 hK23 => ?_)
        refine wp_region_seq ?_
        refine wpL_move (v := .int .i64 ((m : Nat) : Int)) (by rfl) (by rfl) (by rfl) ?_
        simp only [putT, List.set]
        refine wpL_move (v := .int .i64 ((splitN n : Nat) : Int)) (by rfl) (by rfl) (by rfl) ?_
        simp only [putT, List.set]
        refine wpL_chunk 1 (by rfl) (fun Lk hLk => ?_)
        simp only [List.take, List.drop]
        refine wpV_bin (v := .bool (decide (m ≤ splitN n))) (by rfl) rfl rfl rfl (fun W => run_leqN m (splitN n) _ _ W) ?_
        simp only [putT, List.set]
        refine wpV_nil (hLk _ (fun w25 Sw25 => ?_))
        clear hLk Lk
        simp only [List.take, List.drop]
        replace M := M.sees Sw25
        refine wpL_nil (no_panic ?_)
        refine hK23 _ _ ?_
        cases hc26 : (decide (m ≤ splitN n))
        · skip
          have hik : ¬ m ≤ splitN n := of_decide_eq_false hc26
          refine wp_cond_false rfl ?_
          refine wp_skip ?_
          refine hK22 _ _ ?_
          refine wp_seq_k (fun K27 hK27 => ?_)
          refine wp_region_seq ?_
          refine wpL_move (v := .int .i64 ((m : Nat) : Int)) (by rfl) (by rfl) (by rfl) ?_
          simp only [putT, List.set]
          refine wpL_move (v := .int .i64 ((splitN n : Nat) : Int)) (by rfl) (by rfl) (by rfl) ?_
          simp only [putT, List.set]
          refine wpL_chunk 7 (by rfl) (fun Lk hLk => ?_)
          simp only [List.take, List.drop]
          refine wpV_bin (v := .int .i64 ((m - (splitN n) : Nat) : Int)) (by rfl) rfl rfl rfl (fun W => run_sub (by simp only [IntKind.wrap_i64]; omega) W) ?_
          simp only [putT, List.set]
          refine wpV_move (v := .int .i64 ((n : Nat) : Int)) (by rfl) rfl rfl ?_
          simp only [putT, List.set]
          refine wpV_move (v := .int .i64 ((splitN n : Nat) : Int)) (by rfl) rfl rfl ?_
          simp only [putT, List.set]
          refine wpV_bin (v := .int .i64 ((n - (splitN n) : Nat) : Int)) (by rfl) rfl rfl rfl (fun W => run_sub (by simp only [IntKind.wrap_i64]; omega) W) ?_
          simp only [putT, List.set]
          refine wpV_move (v := .string (bs old)) (by rfl) rfl rfl ?_
          simp only [putT, List.set]
          refine wpV_move (v := .slice ap (st.length - 1) cp) (by rfl) rfl rfl ?_
          simp only [putT, List.set]
          refine wpV_callf (v := .string (bs (followT nodeF (m - (splitN n)) (n - (splitN n)) old (st.take (st.length - 1)) false))) (args := #[.int .i64 ((m - (splitN n) : Nat) : Int), .int .i64 ((n - (splitN n) : Nat) : Int), .string (bs old), .slice ap (st.length - 1) cp, .bool false]) (by rfl) rfl Tryd.func69 (by kernel_rfl) (by kernel_rfl) rfl (fun W hW => ih (n - (splitN n)) (by omega) (st := st.take (st.length - 1)) (old := old) (mm := m - (splitN n)) (wh := false) rfl (by omega) (by omega) (by omega) hol (by rw [List.length_take]; omega) (fun s9 h9 => h32 s9 (List.mem_of_mem_take h9)) ((((M.sees hW).oldA Hp).take (Nat.sub_le _ _)).eq (scells_take2 _ _))) ?_
          simp only [putT, List.set]
          refine wpV_nil (hLk _ (fun w29 Sw29 => ?_))
          clear hLk Lk
          simp only [List.take, List.drop]
          replace M := M.sees Sw29
          refine wpL_assign (v := .string (bs (followT nodeF (m - (splitN n)) (n - (splitN n)) old (st.take (st.length - 1)) false))) (by rfl) (by rfl) (by rfl) ?_
          simp only [putT, List.set]
          refine wpL_nil (no_panic ?_)
          refine hK27 _ _ ?_
          refine wp_seq_k (fun K30 hK30 => ?_)
          refine wp_seq_k (fun K31 hK31 => ?_)
          refine wp_region_seq ?_
          refine wpL_move (v := .string (bs (followT nodeF (m - (splitN n)) (n - (splitN n)) old (st.take (st.length - 1)) false))) (by rfl) (by rfl) (by rfl) ?_
          simp only [putT, List.set]
          refine wpL_chunk 1 (by rfl) (fun Lk hLk => ?_)
          simp only [List.take, List.drop]
          refine wpV_binS (v := .bool (decide (followT nodeF (m - (splitN n)) (n - (splitN n)) old (st.take (st.length - 1)) false = []))) (by rfl) rfl rfl rfl (run_eql_bs _ _ _) ?_
          simp only [putT, List.set]
          refine wpV_nil (hLk _ (fun w33 Sw33 => ?_))
          clear hLk Lk
          simp only [List.take, List.drop]
          replace M := M.sees Sw33
          refine wpL_nil (no_panic ?_)
          refine hK31 _ _ ?_
          cases hc34 : (decide (followT nodeF (m - (splitN n)) (n - (splitN n)) old (st.take (st.length - 1)) false = []))
          · skip
            have hem : ¬ followT nodeF (m - (splitN n)) (n - (splitN n)) old (st.take (st.length - 1)) false = [] := of_decide_eq_false hc34
            refine wp_cond_false rfl ?_
            refine wp_skip ?_
            refine hK30 _ _ ?_
            refine wp_seq_k (fun K35 hK35 => ?_)
            refine wp_region_seq ?_
            refine wpL_move (v := .string (bs (st.getD (st.length - 1) []))) (by rfl) (by rfl) (by rfl) ?_
            simp only [putT, List.set]
            refine wpL_move (v := .string (bs (followT nodeF (m - (splitN n)) (n - (splitN n)) old (st.take (st.length - 1)) false))) (by rfl) (by rfl) (by rfl) ?_
            simp only [putT, List.set]
            refine wpL_chunk 1 (by rfl) (fun Lk hLk => ?_)
            simp only [List.take, List.drop]
            refine wpV_callf (v := .string (bs (nodeS (st.getD (st.length - 1) []) (followT nodeF (m - (splitN n)) (n - (splitN n)) old (st.take (st.length - 1)) false)))) (args := #[.string (bs (st.getD (st.length - 1) [])), .string (bs (followT nodeF (m - (splitN n)) (n - (splitN n)) old (st.take (st.length - 1)) false))]) (by rfl) rfl Tryd.func41 (by kernel_rfl) (by kernel_rfl) rfl (fun W hW => rnode_c (a := st.getD (st.length - 1) []) (b := followT nodeF (m - (splitN n)) (n - (splitN n)) old (st.take (st.length - 1)) false) (by rw [getD_32 h32 (by omega)]; decide) (Nat.le_trans (followT_le nodeF_32 hol (fun s9 h9 => h32 s9 (List.mem_of_mem_take h9))) (by decide))) ?_
            simp only [putT, List.set]
            refine wpV_nil (hLk _ (fun w37 Sw37 => ?_))
            clear hLk Lk
            simp only [List.take, List.drop]
            replace M := M.sees Sw37
            refine wpL_assign (v := .string (bs (nodeS (st.getD (st.length - 1) []) (followT nodeF (m - (splitN n)) (n - (splitN n)) old (st.take (st.length - 1)) false)))) (by rfl) (by rfl) (by rfl) ?_
            simp only [putT, List.set]
            refine wpL_nil (no_panic ?_)
            refine hK35 _ _ ?_
            refine wp_ret ?_
            repeat (first | with_reducible refine then_ret ?_ | with_reducible refine inblock_ret ?_)
            refine bodyPost_ret (v := .string (bs (nodeS (st.getD (st.length - 1) []) (followT nodeF (m - (splitN n)) (n - (splitN n)) old (st.take (st.length - 1)) false)))) (res1 rfl (.tmp (by rfl))) rfl ?_
            have BE := M.below
            have e9 : followT nodeF m n old st wh = _ := ((congrArg (fun q9 => followT nodeF m n old q9 wh) eps).trans (followT_right nodeF_ne h1 hlt hik hone hne)).trans (if_neg hem)
            exact ⟨by rw [e9]; rfl, BE⟩
          · skip
            have hem : followT nodeF (m - (splitN n)) (n - (splitN n)) old (st.take (st.length - 1)) false = [] := of_decide_eq_true hc34
            refine wp_cond_true rfl ?_
            refine wp_seq_k (fun K38 hK38 => ?_)
            refine wp_region_seq ?_
            refine wpL_assign (v := .string (bs ([]))) (by rfl) (by rfl) (by rfl) ?_
            simp only [putT, List.set]
            refine wpL_nil (no_panic ?_)
            refine hK38 _ _ ?_
            refine wp_ret ?_
            repeat (first | with_reducible refine then_ret ?_ | with_reducible refine inblock_ret ?_)
            refine bodyPost_ret (v := .string (bs ([]))) (res1 rfl (.tmp (by rfl))) rfl ?_
            have BE := M.below
            have e9 : followT nodeF m n old st wh = [] := ((congrArg (fun q9 => followT nodeF m n old q9 wh) eps).trans (followT_right nodeF_ne h1 hlt hik hone hne)).trans (if_pos hem)
            exact ⟨by rw [e9], BE⟩
        · skip
          have hik : m ≤ splitN n := of_decide_eq_true hc26
          refine wp_cond_true rfl ?_
          refine wp_seq_k (fun K40 hK40 => ?_)
          refine wp_region_seq ?_
          refine wpL_move (v := .int .i64 ((m : Nat) : Int)) (by rfl) (by rfl) (by rfl) ?_
          simp only [putT, List.set]
          refine wpL_move (v := .int .i64 ((splitN n : Nat) : Int)) (by rfl) (by rfl) (by rfl) ?_
          simp only [putT, List.set]
          refine wpL_move (v := .string (bs old)) (by rfl) (by rfl) (by rfl) ?_
          simp only [putT, List.set]
          refine wpL_move (v := .slice ap (st.length - 1) cp) (by rfl) (by rfl) (by rfl) ?_
          simp only [putT, List.set]
          refine wpL_move (v := .bool wh) (by rfl) (by rfl) (by rfl) ?_
          simp only [putT, List.set]
          refine wpL_chunk 1 (by rfl) (fun Lk hLk => ?_)
          simp only [List.take, List.drop]
          refine wpV_callf (v := .string (bs (followT nodeF m (splitN n) old (st.take (st.length - 1)) wh))) (args := #[.int .i64 ((m : Nat) : Int), .int .i64 ((splitN n : Nat) : Int), .string (bs old), .slice ap (st.length - 1) cp, .bool wh]) (by rfl) rfl Tryd.func69 (by kernel_rfl) (by kernel_rfl) rfl (fun W hW => ih (splitN n) (by omega) (st := st.take (st.length - 1)) (old := old) (mm := m) (wh := wh) rfl (by omega) (by omega) (by omega) hol (by rw [List.length_take]; omega) (fun s9 h9 => h32 s9 (List.mem_of_mem_take h9)) ((((M.sees hW).oldA Hp).take (Nat.sub_le _ _)).eq (scells_take2 _ _))) ?_
          simp only [putT, List.set]
          refine wpV_nil (hLk _ (fun w42 Sw42 => ?_))
          clear hLk Lk
          simp only [List.take, List.drop]
          replace M := M.sees Sw42
          refine wpL_assign (v := .string (bs (followT nodeF m (splitN n) old (st.take (st.length - 1)) wh))) (by rfl) (by rfl) (by rfl) ?_
          simp only [putT, List.set]
          refine wpL_nil (no_panic ?_)
          refine hK40 _ _ ?_
          refine wp_seq_k (fun K43 hK43 => ?_)
          refine wp_seq_k (fun K44 hK44 => ?_)
          refine wp_region_seq ?_
          refine wpL_move (v := .string (bs (followT nodeF m (splitN n) old (st.take (st.length - 1)) wh))) (by rfl) (by rfl) (by rfl) ?_
          simp only [putT, List.set]
          refine wpL_chunk 1 (by rfl) (fun Lk hLk => ?_)
          simp only [List.take, List.drop]
          refine wpV_binS (v := .bool (decide (followT nodeF m (splitN n) old (st.take (st.length - 1)) wh = []))) (by rfl) rfl rfl rfl (run_eql_bs _ _ _) ?_
          simp only [putT, List.set]
          refine wpV_nil (hLk _ (fun w46 Sw46 => ?_))
          clear hLk Lk
          simp only [List.take, List.drop]
          replace M := M.sees Sw46
          refine wpL_nil (no_panic ?_)
          refine hK44 _ _ ?_
          cases hc47 : (decide (followT nodeF m (splitN n) old (st.take (st.length - 1)) wh = []))
          · skip
            have hem : ¬ followT nodeF m (splitN n) old (st.take (st.length - 1)) wh = [] := of_decide_eq_false hc47
            refine wp_cond_false rfl ?_
            refine wp_skip ?_
            refine hK43 _ _ ?_
            refine wp_seq_k (fun K48 hK48 => ?_)
            refine wp_region_seq ?_
            refine wpL_move (v := .string (bs (followT nodeF m (splitN n) old (st.take (st.length - 1)) wh))) (by rfl) (by rfl) (by rfl) ?_
            simp only [putT, List.set]
            refine wpL_move (v := .string (bs (st.getD (st.length - 1) []))) (by rfl) (by rfl) (by rfl) ?_
            simp only [putT, List.set]
            refine wpL_chunk 1 (by rfl) (fun Lk hLk => ?_)
            simp only [List.take, List.drop]
            refine wpV_callf (v := .string (bs (nodeS (followT nodeF m (splitN n) old (st.take (st.length - 1)) wh) (st.getD (st.length - 1) [])))) (args := #[.string (bs (followT nodeF m (splitN n) old (st.take (st.length - 1)) wh)), .string (bs (st.getD (st.length - 1) []))]) (by rfl) rfl Tryd.func41 (by kernel_rfl) (by kernel_rfl) rfl (fun W hW => rnode_c (a := followT nodeF m (splitN n) old (st.take (st.length - 1)) wh) (b := st.getD (st.length - 1) []) (Nat.le_trans (followT_le nodeF_32 hol (fun s9 h9 => h32 s9 (List.mem_of_mem_take h9))) (by decide)) (by rw [getD_32 h32 (by omega)]; decide)) ?_
            simp only [putT, List.set]
            refine wpV_nil (hLk _ (fun w50 Sw50 => ?_))
            clear hLk Lk
            simp only [List.take, List.drop]
            replace M := M.sees Sw50
            refine wpL_assign (v := .string (bs (nodeS (followT nodeF m (splitN n) old (st.take (st.length - 1)) wh) (st.getD (st.length - 1) [])))) (by rfl) (by rfl) (by rfl) ?_
            simp only [putT, List.set]
            refine wpL_nil (no_panic ?_)
            refine hK48 _ _ ?_
            refine wp_ret ?_
            repeat (first | with_reducible refine then_ret ?_ | with_reducible refine inblock_ret ?_)
            refine bodyPost_ret (v := .string (bs (nodeS (followT nodeF m (splitN n) old (st.take (st.length - 1)) wh) (st.getD (st.length - 1) [])))) (res1 rfl (.tmp (by rfl))) rfl ?_
            have BE := M.below
            have e9 : followT nodeF m n old st wh = _ := ((congrArg (fun q9 => followT nodeF m n old q9 wh) eps).trans (followT_left nodeF_ne h1 hlt hik hone hne)).trans (if_neg hem)
            exact ⟨by rw [e9]; rfl, BE⟩
          · skip
            have hem : followT nodeF m (splitN n) old (st.take (st.length - 1)) wh = [] := of_decide_eq_true hc47
            refine wp_cond_true rfl ?_
            refine wp_seq_k (fun K51 hK51 => ?_)
            refine wp_region_seq ?_
            refine wpL_assign (v := .string (bs ([]))) (by rfl) (by rfl) (by rfl) ?_
            simp only [putT, List.set]
            refine wpL_nil (no_panic ?_)
            refine hK51 _ _ ?_
            refine wp_ret ?_
            repeat (first | with_reducible refine then_ret ?_ | with_reducible refine inblock_ret ?_)
            refine bodyPost_ret (v := .string (bs ([]))) (res1 rfl (.tmp (by rfl))) rfl ?_
            have BE := M.below
            have e9 : followT nodeF m n old st wh = [] := ((congrArg (fun q9 => followT nodeF m n old q9 wh) eps).trans (followT_left nodeF_ne h1 hlt hik hone hne)).trans (if_pos hem)
            exact ⟨by rw [e9], BE⟩
      · skip
        have hp0 : st.length = 0 := of_decide_eq_true hc12
        refine wp_cond_true rfl ?_
        refine wp_seq_k (fun K53 hK53 => ?_)
        refine wp_region_seq ?_
        refine wpL_assign (v := .string (bs ([]))) (by rfl) (by rfl) (by rfl) ?_
        simp only [putT, List.set]
        refine wpL_nil (no_panic ?_)
        refine hK53 _ _ ?_
        refine wp_ret ?_
        repeat (first | with_reducible refine then_ret ?_ | with_reducible refine inblock_ret ?_)
        refine bodyPost_ret (v := .string (bs ([]))) (res1 rfl (.tmp (by rfl))) rfl ?_
        have BE := M.below
        exact ⟨by rw [List.length_eq_zero_iff.1 hp0, followT_nil h1 hlt], BE⟩
    · skip
      have hmn2 : m = n := of_decide_eq_true hc7
      refine wp_cond_true rfl ?_
      refine wp_seq_k (fun K55 hK55 => ?_)
      refine wp_region_seq ?_
      refine wpL_move (v := .int .i64 ((m : Nat) : Int)) (by rfl) (by rfl) (by rfl) ?_
      simp only [putT, List.set]
      refine wpL_move (v := .int .i64 ((n : Nat) : Int)) (by rfl) (by rfl) (by rfl) ?_
      simp only [putT, List.set]
      refine wpL_move (v := .string (bs old)) (by rfl) (by rfl) (by rfl) ?_
      simp only [putT, List.set]
      refine wpL_move (v := .slice ap st.length cp) (by rfl) (by rfl) (by rfl) ?_
      simp only [putT, List.set]
      refine wpL_move (v := .bool wh) (by rfl) (by rfl) (by rfl) ?_
      simp only [putT, List.set]
      refine wpL_chunk 1 (by rfl) (fun Lk hLk => ?_)
      simp only [List.take, List.drop]
      refine wpV_callf (v := .string (bs (followT oldF m n old st wh))) (args := #[.int .i64 ((m : Nat) : Int), .int .i64 ((n : Nat) : Int), .string (bs old), .slice ap st.length cp, .bool wh]) (by rfl) rfl Tryd.func68 (by kernel_rfl) (by kernel_rfl) rfl (fun W hW => rfold_c _ (st := st) (old := old) (mm := m) (n := n) (wh := wh) rfl h1 hmn hn hol hq h32 ((M.sees hW).oldA Hp)) ?_
      simp only [putT, List.set]
      refine wpV_nil (hLk _ (fun w57 Sw57 => ?_))
      clear hLk Lk
      simp only [List.take, List.drop]
      replace M := M.sees Sw57
      refine wpL_assign (v := .string (bs (followT oldF m n old st wh))) (by rfl) (by rfl) (by rfl) ?_
      simp only [putT, List.set]
      refine wpL_nil (no_panic ?_)
      refine hK55 _ _ ?_
      refine wp_ret ?_
      repeat (first | with_reducible refine then_ret ?_ | with_reducible refine inblock_ret ?_)
      refine bodyPost_ret (v := .string (bs (followT oldF m n old st wh))) (res1 rfl (.tmp (by rfl))) rfl ?_
      have BE := M.below
      exact ⟨by rw [followT_all (by omega), followT_all (by omega)], BE⟩
end Go.Proofs.Yb

namespace Go.Proofs.Yb
open Go Go.RowKit Go.Proofs.Num
attribute [local irreducible] wpV wpN wpList
theorem folB_all {m n : Nat} {old root : List UInt8} {st : List (List UInt8)} (h : n ≤ m) (ho : old ≠ []) : folB m n old root st = true ↔ (st.length = 0 ∧ old = root) := by
  unfold folB
  rw [decide_eq_true_eq, followT_all h, followT_all h]
  by_cases hz : st.length = 0
  · simp [hz]
  · simp [hz, Ne.symm ho]
set_option maxHeartbeats 1000000 in
theorem Follows_neg {st : List (List UInt8)} {ap : Option Addr} {np cp : Nat} {old root : List UInt8} {x y : Int} {w : World} (hq : st.length ≤ 4611686018427387904) (hx : x < 0) (L0 : 0 < w.heap.size) (R0_0 : w.rangeAt 0 0 kcells) (Hp : RowA w ap np cp (scells st)) :
    Calls Tryd.prog 67 #[.int .i64 x, .int .i64 y, .string (bs old), .string (bs root), .slice ap np cp] w fun e w' => e = .returned (.int .i64 1) ∧ Below w.heap.size w w' := by
  obtain rfl : np = st.length := by have := Hp.len; rwa [scells_len] at this
  go_enter Tryd.func67, Tryd.ntmps67
  have M := Mem.start w
  refine wp_seq_k (fun K1 hK1 => ?_)
  refine wp_region_seq ?_
  refine wpL_assign (v := .int .i64 0) (by rfl) (by rfl) (by rfl) ?_
  simp only [putT, List.set]
  refine wpL_nil (no_panic ?_)
  refine hK1 _ _ ?_
  refine wp_seq_k (fun K3 hK3 => ?_)
  refine wp_seq_k (fun K4 hK4 => ?_)
  refine wp_region_seq ?_
  refine wpL_move (v := .int .i64 x) (by rfl) (by rfl) (by rfl) ?_
  simp only [putT, List.set]
  refine wpL_chunk 13 (by rfl) (fun Lk hLk => ?_)
  simp only [List.take, List.drop]
  refine wpV_bin (v := .bool true) (by rfl) rfl rfl rfl (fun W => (run_lss _ _ _ _ W).trans (by rw [(decide_eq_true hx)])) ?_
  simp only [putT, List.set]
  refine wpV_move (v := .bool true) (by rfl) rfl rfl ?_
  simp only [putT, List.set]
  refine wpV_skip (by rfl) (by rfl) ?_
  simp only [putT, List.set]
  refine wpV_skip (by rfl) (by rfl) ?_
  simp only [putT, List.set]
  refine wpV_skip (by rfl) (by rfl) ?_
  simp only [putT, List.set]
  refine wpV_pick (v := .bool true) (by rfl) rfl rfl rfl ?_
  simp only [putT, List.set]
  refine wpV_move (v := .bool true) (by rfl) rfl rfl ?_
  simp only [putT, List.set]
  refine wpV_skip (by rfl) (by rfl) ?_
  simp only [putT, List.set]
  refine wpV_skip (by rfl) (by rfl) ?_
  simp only [putT, List.set]
  refine wpV_pick (v := .bool true) (by rfl) rfl rfl rfl ?_
  simp only [putT, List.set]
  refine wpV_move (v := .bool true) (by rfl) rfl rfl ?_
  simp only [putT, List.set]
  refine wpV_skip (by rfl) (by rfl) ?_
  simp only [putT, List.set]
  refine wpV_skip (by rfl) (by rfl) ?_
  simp only [putT, List.set]
  refine wpV_nil (hLk _ (fun w6 Sw6 => ?_))
  clear hLk Lk
  simp only [List.take, List.drop]
  replace M := M.sees Sw6
  refine wpL_chunk 1 (by rfl) (fun Lk hLk => ?_)
  simp only [List.take, List.drop]
  refine wpV_skip (by rfl) (by rfl) ?_
  simp only [putT, List.set]
  refine wpV_nil (hLk _ (fun w7 Sw7 => ?_))
  clear hLk Lk
  simp only [List.take, List.drop]
  replace M := M.sees Sw7
  refine wpL_chunk 8 (by rfl) (fun Lk hLk => ?_)
  simp only [List.take, List.drop]
  refine wpV_skip (by rfl) (by rfl) ?_
  simp only [putT, List.set]
  refine wpV_skip (by rfl) (by rfl) ?_
  simp only [putT, List.set]
  refine wpV_pick (v := .bool true) (by rfl) rfl rfl rfl ?_
  simp only [putT, List.set]
  refine wpV_move (v := .bool true) (by rfl) rfl rfl ?_
  simp only [putT, List.set]
  refine wpV_skip (by rfl) (by rfl) ?_
  simp only [putT, List.set]
  refine wpV_skip (by rfl) (by rfl) ?_
  simp only [putT, List.set]
  refine wpV_skip (by rfl) (by rfl) ?_
  simp only [putT, List.set]
  refine wpV_pick (v := .bool true) (by rfl) rfl rfl rfl ?_
  simp only [putT, List.set]
  refine wpV_nil (hLk _ (fun w8 Sw8 => ?_))
  clear hLk Lk
  simp only [List.take, List.drop]
  replace M := M.sees Sw8
  refine wpL_nil (no_panic ?_)
  refine hK4 _ _ ?_
  refine wp_cond_true rfl ?_
  refine wp_seq_k (fun K9 hK9 => ?_)
  refine wp_region_seq ?_
  refine wpL_assign (v := .int .i64 1) (by rfl) (by rfl) (by rfl) ?_
  simp only [putT, List.set]
  refine wpL_nil (no_panic ?_)
  refine hK9 _ _ ?_
  refine wp_ret ?_
  repeat (first | with_reducible refine then_ret ?_ | with_reducible refine inblock_ret ?_)
  refine bodyPost_ret (v := .int .i64 1) (res1 rfl (.tmp (by rfl))) rfl ?_
  have BE := M.below
  exact ⟨rfl, BE⟩
set_option maxHeartbeats 1000000 in
theorem Follows_far {st : List (List UInt8)} {ap : Option Addr} {np cp : Nat} {old root : List UInt8} {x y : Int} {w : World} (hq : st.length ≤ 4611686018427387904) (hx : ¬ x < 0) (hy : y < x) (L0 : 0 < w.heap.size) (R0_0 : w.rangeAt 0 0 kcells) (Hp : RowA w ap np cp (scells st)) :
    Calls Tryd.prog 67 #[.int .i64 x, .int .i64 y, .string (bs old), .string (bs root), .slice ap np cp] w fun e w' => e = .returned (.int .i64 1) ∧ Below w.heap.size w w' := by
  obtain rfl : np = st.length := by have := Hp.len; rwa [scells_len] at this
  go_enter Tryd.func67, Tryd.ntmps67
  have M := Mem.start w
  refine wp_seq_k (fun K1 hK1 => ?_)
  refine wp_region_seq ?_
  refine wpL_assign (v := .int .i64 0) (by rfl) (by rfl) (by rfl) ?_
  simp only [putT, List.set]
  refine wpL_nil (no_panic ?_)
  refine hK1 _ _ ?_
  refine wp_seq_k (fun K3 hK3 => ?_)
  refine wp_seq_k (fun K4 hK4 => ?_)
  refine wp_region_seq ?_
  refine wpL_move (v := .int .i64 x) (by rfl) (by rfl) (by rfl) ?_
  simp only [putT, List.set]
  refine wpL_chunk 13 (by rfl) (fun Lk hLk => ?_)
  simp only [List.take, List.drop]
  refine wpV_bin (v := .bool false) (by rfl) rfl rfl rfl (fun W => (run_lss _ _ _ _ W).trans (by rw [(decide_eq_false hx)])) ?_
  simp only [putT, List.set]
  refine wpV_move (v := .bool false) (by rfl) rfl rfl ?_
  simp only [putT, List.set]
  refine wpV_move (v := .int .i64 x) (by rfl) rfl rfl ?_
  simp only [putT, List.set]
  refine wpV_move (v := .int .i64 y) (by rfl) rfl rfl ?_
  simp only [putT, List.set]
  refine wpV_bin (v := .bool true) (by rfl) rfl rfl rfl (fun W => (run_gtr _ _ _ _ W).trans (by rw [(decide_eq_true hy)])) ?_
  simp only [putT, List.set]
  refine wpV_pick (v := .bool true) (by rfl) rfl rfl rfl ?_
  simp only [putT, List.set]
  refine wpV_move (v := .bool true) (by rfl) rfl rfl ?_
  simp only [putT, List.set]
  refine wpV_skip (by rfl) (by rfl) ?_
  simp only [putT, List.set]
  refine wpV_skip (by rfl) (by rfl) ?_
  simp only [putT, List.set]
  refine wpV_pick (v := .bool true) (by rfl) rfl rfl rfl ?_
  simp only [putT, List.set]
  refine wpV_move (v := .bool true) (by rfl) rfl rfl ?_
  simp only [putT, List.set]
  refine wpV_skip (by rfl) (by rfl) ?_
  simp only [putT, List.set]
  refine wpV_skip (by rfl) (by rfl) ?_
  simp only [putT, List.set]
  refine wpV_nil (hLk _ (fun w6 Sw6 => ?_))
  clear hLk Lk
  simp only [List.take, List.drop]
  replace M := M.sees Sw6
  refine wpL_chunk 1 (by rfl) (fun Lk hLk => ?_)
  simp only [List.take, List.drop]
  refine wpV_skip (by rfl) (by rfl) ?_
  simp only [putT, List.set]
  refine wpV_nil (hLk _ (fun w7 Sw7 => ?_))
  clear hLk Lk
  simp only [List.take, List.drop]
  replace M := M.sees Sw7
  refine wpL_chunk 8 (by rfl) (fun Lk hLk => ?_)
  simp only [List.take, List.drop]
  refine wpV_skip (by rfl) (by rfl) ?_
  simp only [putT, List.set]
  refine wpV_skip (by rfl) (by rfl) ?_
  simp only [putT, List.set]
  refine wpV_pick (v := .bool true) (by rfl) rfl rfl rfl ?_
  simp only [putT, List.set]
  refine wpV_move (v := .bool true) (by rfl) rfl rfl ?_
  simp only [putT, List.set]
  refine wpV_skip (by rfl) (by rfl) ?_
  simp only [putT, List.set]
  refine wpV_skip (by rfl) (by rfl) ?_
  simp only [putT, List.set]
  refine wpV_skip (by rfl) (by rfl) ?_
  simp only [putT, List.set]
  refine wpV_pick (v := .bool true) (by rfl) rfl rfl rfl ?_
  simp only [putT, List.set]
  refine wpV_nil (hLk _ (fun w8 Sw8 => ?_))
  clear hLk Lk
  simp only [List.take, List.drop]
  replace M := M.sees Sw8
  refine wpL_nil (no_panic ?_)
  refine hK4 _ _ ?_
  refine wp_cond_true rfl ?_
  refine wp_seq_k (fun K9 hK9 => ?_)
  refine wp_region_seq ?_
  refine wpL_assign (v := .int .i64 1) (by rfl) (by rfl) (by rfl) ?_
  simp only [putT, List.set]
  refine wpL_nil (no_panic ?_)
  refine hK9 _ _ ?_
  refine wp_ret ?_
  repeat (first | with_reducible refine then_ret ?_ | with_reducible refine inblock_ret ?_)
  refine bodyPost_ret (v := .int .i64 1) (res1 rfl (.tmp (by rfl))) rfl ?_
  have BE := M.below
  exact ⟨rfl, BE⟩
set_option maxHeartbeats 1000000 in
theorem Follows_many {st : List (List UInt8)} {ap : Option Addr} {np cp : Nat} {old root : List UInt8} {x y : Int} {w : World} (hq : st.length ≤ 4611686018427387904) (hx : ¬ x < 0) (hy : ¬ y < x) (hm : 4096 < y) (L0 : 0 < w.heap.size) (R0_0 : w.rangeAt 0 0 kcells) (Hp : RowA w ap np cp (scells st)) :
    Calls Tryd.prog 67 #[.int .i64 x, .int .i64 y, .string (bs old), .string (bs root), .slice ap np cp] w fun e w' => e = .returned (.int .i64 1) ∧ Below w.heap.size w w' := by
  obtain rfl : np = st.length := by have := Hp.len; rwa [scells_len] at this
  go_enter Tryd.func67, Tryd.ntmps67
  have M := Mem.start w
  refine wp_seq_k (fun K1 hK1 => ?_)
  refine wp_region_seq ?_
  refine wpL_assign (v := .int .i64 0) (by rfl) (by rfl) (by rfl) ?_
  simp only [putT, List.set]
  refine wpL_nil (no_panic ?_)
  refine hK1 _ _ ?_
  refine wp_seq_k (fun K3 hK3 => ?_)
  refine wp_seq_k (fun K4 hK4 => ?_)
  refine wp_region_seq ?_
  refine wpL_move (v := .int .i64 x) (by rfl) (by rfl) (by rfl) ?_
  simp only [putT, List.set]
  refine wpL_chunk 13 (by rfl) (fun Lk hLk => ?_)
  simp only [List.take, List.drop]
  refine wpV_bin (v := .bool false) (by rfl) rfl rfl rfl (fun W => (run_lss _ _ _ _ W).trans (by rw [(decide_eq_false hx)])) ?_
  simp only [putT, List.set]
  refine wpV_move (v := .bool false) (by rfl) rfl rfl ?_
  simp only [putT, List.set]
  refine wpV_move (v := .int .i64 x) (by rfl) rfl rfl ?_
  simp only [putT, List.set]
  refine wpV_move (v := .int .i64 y) (by rfl) rfl rfl ?_
  simp only [putT, List.set]
  refine wpV_bin (v := .bool false) (by rfl) rfl rfl rfl (fun W => (run_gtr _ _ _ _ W).trans (by rw [(decide_eq_false hy)])) ?_
  simp only [putT, List.set]
  refine wpV_pick (v := .bool false) (by rfl) rfl rfl rfl ?_
  simp only [putT, List.set]
  refine wpV_move (v := .bool false) (by rfl) rfl rfl ?_
  simp only [putT, List.set]
  refine wpV_move (v := .int .i64 y) (by rfl) rfl rfl ?_
  simp only [putT, List.set]
  refine wpV_bin (v := .bool true) (by rfl) rfl rfl rfl (fun W => (run_gtr _ _ _ _ W).trans (by rw [(decide_eq_true hm)])) ?_
  simp only [putT, List.set]
  refine wpV_pick (v := .bool true) (by rfl) rfl rfl rfl ?_
  simp only [putT, List.set]
  refine wpV_move (v := .bool true) (by rfl) rfl rfl ?_
  simp only [putT, List.set]
  refine wpV_skip (by rfl) (by rfl) ?_
  simp only [putT, List.set]
  refine wpV_skip (by rfl) (by rfl) ?_
  simp only [putT, List.set]
  refine wpV_nil (hLk _ (fun w6 Sw6 => ?_))
  clear hLk Lk
  simp only [List.take, List.drop]
  replace M := M.sees Sw6
  refine wpL_chunk 1 (by rfl) (fun Lk hLk => ?_)
  simp only [List.take, List.drop]
  refine wpV_skip (by rfl) (by rfl) ?_
  simp only [putT, List.set]
  refine wpV_nil (hLk _ (fun w7 Sw7 => ?_))
  clear hLk Lk
  simp only [List.take, List.drop]
  replace M := M.sees Sw7
  refine wpL_chunk 8 (by rfl) (fun Lk hLk => ?_)
  simp only [List.take, List.drop]
  refine wpV_skip (by rfl) (by rfl) ?_
  simp only [putT, List.set]
  refine wpV_skip (by rfl) (by rfl) ?_
  simp only [putT, List.set]
  refine wpV_pick (v := .bool true) (by rfl) rfl rfl rfl ?_
  simp only [putT, List.set]
  refine wpV_move (v := .bool true) (by rfl) rfl rfl ?_
  simp only [putT, List.set]
  refine wpV_skip (by rfl) (by rfl) ?_
  simp only [putT, List.set]
  refine wpV_skip (by rfl) (by rfl) ?_
  simp only [putT, List.set]
  refine wpV_skip (by rfl) (by rfl) ?_
  simp only [putT, List.set]
  refine wpV_pick (v := .bool true) (by rfl) rfl rfl rfl ?_
  simp only [putT, List.set]
  refine wpV_nil (hLk _ (fun w8 Sw8 => ?_))
  clear hLk Lk
  simp only [List.take, List.drop]
  replace M := M.sees Sw8
  refine wpL_nil (no_panic ?_)
  refine hK4 _ _ ?_
  refine wp_cond_true rfl ?_
  refine wp_seq_k (fun K9 hK9 => ?_)
  refine wp_region_seq ?_
  refine wpL_assign (v := .int .i64 1) (by rfl) (by rfl) (by rfl) ?_
  simp only [putT, List.set]
  refine wpL_nil (no_panic ?_)
  refine hK9 _ _ ?_
  refine wp_ret ?_
  repeat (first | with_reducible refine then_ret ?_ | with_reducible refine inblock_ret ?_)
  refine bodyPost_ret (v := .int .i64 1) (res1 rfl (.tmp (by rfl))) rfl ?_
  have BE := M.below
  exact ⟨rfl, BE⟩
set_option maxHeartbeats 1000000 in
theorem Follows_two {st : List (List UInt8)} {ap : Option Addr} {np cp : Nat} {old root : List UInt8} {x y : Int} {w : World} (hq : st.length ≤ 4611686018427387904) (hx : ¬ x < 0) (hy : ¬ y < x) (hm : ¬ 4096 < y) (ht : all32 [old, root] = false) (L0 : 0 < w.heap.size) (R0_0 : w.rangeAt 0 0 kcells) (Hp : RowA w ap np cp (scells st)) :
    Calls Tryd.prog 67 #[.int .i64 x, .int .i64 y, .string (bs old), .string (bs root), .slice ap np cp] w fun e w' => e = .returned (.int .i64 1) ∧ Below w.heap.size w w' := by
  obtain rfl : np = st.length := by have := Hp.len; rwa [scells_len] at this
  go_enter Tryd.func67, Tryd.ntmps67
  have M := Mem.start w
  refine wp_seq_k (fun K1 hK1 => ?_)
  refine wp_region_seq ?_
  refine wpL_assign (v := .int .i64 0) (by rfl) (by rfl) (by rfl) ?_
  simp only [putT, List.set]
  refine wpL_nil (no_panic ?_)
  refine hK1 _ _ ?_
  refine wp_seq_k (fun K3 hK3 => ?_)
  refine wp_seq_k (fun K4 hK4 => ?_)
  refine wp_region_seq ?_
  refine wpL_move (v := .int .i64 x) (by rfl) (by rfl) (by rfl) ?_
  simp only [putT, List.set]
  refine wpL_chunk 13 (by rfl) (fun Lk hLk => ?_)
  simp only [List.take, List.drop]
  refine wpV_bin (v := .bool false) (by rfl) rfl rfl rfl (fun W => (run_lss _ _ _ _ W).trans (by rw [(decide_eq_false hx)])) ?_
  simp only [putT, List.set]
  refine wpV_move (v := .bool false) (by rfl) rfl rfl ?_
  simp only [putT, List.set]
  refine wpV_move (v := .int .i64 x) (by rfl) rfl rfl ?_
  simp only [putT, List.set]
  refine wpV_move (v := .int .i64 y) (by rfl) rfl rfl ?_
  simp only [putT, List.set]
  refine wpV_bin (v := .bool false) (by rfl) rfl rfl rfl (fun W => (run_gtr _ _ _ _ W).trans (by rw [(decide_eq_false hy)])) ?_
  simp only [putT, List.set]
  refine wpV_pick (v := .bool false) (by rfl) rfl rfl rfl ?_
  simp only [putT, List.set]
  refine wpV_move (v := .bool false) (by rfl) rfl rfl ?_
  simp only [putT, List.set]
  refine wpV_move (v := .int .i64 y) (by rfl) rfl rfl ?_
  simp only [putT, List.set]
  refine wpV_bin (v := .bool false) (by rfl) rfl rfl rfl (fun W => (run_gtr _ _ _ _ W).trans (by rw [(decide_eq_false hm)])) ?_
  simp only [putT, List.set]
  refine wpV_pick (v := .bool false) (by rfl) rfl rfl rfl ?_
  simp only [putT, List.set]
  refine wpV_move (v := .bool false) (by rfl) rfl rfl ?_
  simp only [putT, List.set]
  refine wpV_move (v := .string (bs old)) (by rfl) rfl rfl ?_
  simp only [putT, List.set]
  refine wpV_move (v := .string (bs root)) (by rfl) rfl rfl ?_
  simp only [putT, List.set]
  refine wpV_nil (hLk _ (fun w6 Sw6 => ?_))
  clear hLk Lk
  simp only [List.take, List.drop]
  replace M := M.sees Sw6
  refine wpL_guard (by rfl) ?_
  refine wpL_rowN (vs := [.string (bs old), .string (bs root)]) (z := .string { data := #[] }) (bytes := 16) (by rfl) (by rfl) Tryd.underlying48 (by kernel_rfl) (by decide) (by kernel_rfl) (fun g7 w8 Sw8 Hg7 Bg7 => ?_)
  replace M := ((M.sees Sw8).add (N := 2) (cs := [.string (bs old), .string (bs root)]) (M.ge Hg7) (M.fresh Hg7) Bg7 rfl)
  clear Bg7
  simp only [putT, List.set]
  refine wpL_chunk 8 (by rfl) (fun Lk hLk => ?_)
  simp only [List.take, List.drop]
  refine wpV_callf (v := .bool false) (args := #[.slice (some ⟨g7, 0, none⟩) 2 2]) (by rfl) rfl Tryd.func82 (by kernel_rfl) (by kernel_rfl) rfl (fun W hW => by have h9 : Calls Tryd.prog _ _ W _ := wellp_r (ps := [old, root]) (show 2 ≤ 4611686018427387904 by decide) (RowA.of ((M.sees hW).r 0 0 rfl rfl) ((M.sees hW).lt 0 rfl) rfl (Nat.le_refl _)); rw [ht] at h9; exact h9) ?_
  simp only [putT, List.set]
  refine wpV_not (b := false) (by rfl) rfl rfl ?_
  simp only [Bool.not_true, Bool.not_false]
  simp only [putT, List.set]
  refine wpV_pick (v := .bool true) (by rfl) rfl rfl rfl ?_
  simp only [putT, List.set]
  refine wpV_move (v := .bool true) (by rfl) rfl rfl ?_
  simp only [putT, List.set]
  refine wpV_skip (by rfl) (by rfl) ?_
  simp only [putT, List.set]
  refine wpV_skip (by rfl) (by rfl) ?_
  simp only [putT, List.set]
  refine wpV_skip (by rfl) (by rfl) ?_
  simp only [putT, List.set]
  refine wpV_pick (v := .bool true) (by rfl) rfl rfl rfl ?_
  simp only [putT, List.set]
  refine wpV_nil (hLk _ (fun w9 Sw9 => ?_))
  clear hLk Lk
  simp only [List.take, List.drop]
  replace M := M.sees Sw9
  refine wpL_nil (no_panic ?_)
  refine hK4 _ _ ?_
  refine wp_cond_true rfl ?_
  refine wp_seq_k (fun K10 hK10 => ?_)
  refine wp_region_seq ?_
  refine wpL_assign (v := .int .i64 1) (by rfl) (by rfl) (by rfl) ?_
  simp only [putT, List.set]
  refine wpL_nil (no_panic ?_)
  refine hK10 _ _ ?_
  refine wp_ret ?_
  repeat (first | with_reducible refine then_ret ?_ | with_reducible refine inblock_ret ?_)
  refine bodyPost_ret (v := .int .i64 1) (res1 rfl (.tmp (by rfl))) rfl ?_
  have BE := M.below
  exact ⟨rfl, BE⟩
set_option maxHeartbeats 1000000 in
theorem Follows_path {st : List (List UInt8)} {ap : Option Addr} {np cp : Nat} {old root : List UInt8} {x y : Int} {w : World} (hq : st.length ≤ 4611686018427387904) (hx : ¬ x < 0) (hy : ¬ y < x) (hm : ¬ 4096 < y) (ht : all32 [old, root] = true) (hp : all32 st = false) (L0 : 0 < w.heap.size) (R0_0 : w.rangeAt 0 0 kcells) (Hp : RowA w ap np cp (scells st)) :
    Calls Tryd.prog 67 #[.int .i64 x, .int .i64 y, .string (bs old), .string (bs root), .slice ap np cp] w fun e w' => e = .returned (.int .i64 1) ∧ Below w.heap.size w w' := by
  obtain rfl : np = st.length := by have := Hp.len; rwa [scells_len] at this
  go_enter Tryd.func67, Tryd.ntmps67
  have M := Mem.start w
  refine wp_seq_k (fun K1 hK1 => ?_)
  refine wp_region_seq ?_
  refine wpL_assign (v := .int .i64 0) (by rfl) (by rfl) (by rfl) ?_
  simp only [putT, List.set]
  refine wpL_nil (no_panic ?_)
  refine hK1 _ _ ?_
  refine wp_seq_k (fun K3 hK3 => ?_)
  refine wp_seq_k (fun K4 hK4 => ?_)
  refine wp_region_seq ?_
  refine wpL_move (v := .int .i64 x) (by rfl) (by rfl) (by rfl) ?_
  simp only [putT, List.set]
  refine wpL_chunk 13 (by rfl) (fun Lk hLk => ?_)
  simp only [List.take, List.drop]
  refine wpV_bin (v := .bool false) (by rfl) rfl rfl rfl (fun W => (run_lss _ _ _ _ W).trans (by rw [(decide_eq_false hx)])) ?_
  simp only [putT, List.set]
  refine wpV_move (v := .bool false) (by rfl) rfl rfl ?_
  simp only [putT, List.set]
  refine wpV_move (v := .int .i64 x) (by rfl) rfl rfl ?_
  simp only [putT, List.set]
  refine wpV_move (v := .int .i64 y) (by rfl) rfl rfl ?_
  simp only [putT, List.set]
  refine wpV_bin (v := .bool false) (by rfl) rfl rfl rfl (fun W => (run_gtr _ _ _ _ W).trans (by rw [(decide_eq_false hy)])) ?_
  simp only [putT, List.set]
  refine wpV_pick (v := .bool false) (by rfl) rfl rfl rfl ?_
  simp only [putT, List.set]
  refine wpV_move (v := .bool false) (by rfl) rfl rfl ?_
  simp only [putT, List.set]
  refine wpV_move (v := .int .i64 y) (by rfl) rfl rfl ?_
  simp only [putT, List.set]
  refine wpV_bin (v := .bool false) (by rfl) rfl rfl rfl (fun W => (run_gtr _ _ _ _ W).trans (by rw [(decide_eq_false hm)])) ?_
  simp only [putT, List.set]
  refine wpV_pick (v := .bool false) (by rfl) rfl rfl rfl ?_
  simp only [putT, List.set]
  refine wpV_move (v := .bool false) (by rfl) rfl rfl ?_
  simp only [putT, List.set]
  refine wpV_move (v := .string (bs old)) (by rfl) rfl rfl ?_
  simp only [putT, List.set]
  refine wpV_move (v := .string (bs root)) (by rfl) rfl rfl ?_
  simp only [putT, List.set]
  refine wpV_nil (hLk _ (fun w6 Sw6 => ?_))
  clear hLk Lk
  simp only [List.take, List.drop]
  replace M := M.sees Sw6
  refine wpL_guard (by rfl) ?_
  refine wpL_rowN (vs := [.string (bs old), .string (bs root)]) (z := .string { data := #[] }) (bytes := 16) (by rfl) (by rfl) Tryd.underlying48 (by kernel_rfl) (by decide) (by kernel_rfl) (fun g7 w8 Sw8 Hg7 Bg7 => ?_)
  replace M := ((M.sees Sw8).add (N := 2) (cs := [.string (bs old), .string (bs root)]) (M.ge Hg7) (M.fresh Hg7) Bg7 rfl)
  clear Bg7
  simp only [putT, List.set]
  refine wpL_chunk 8 (by rfl) (fun Lk hLk => ?_)
  simp only [List.take, List.drop]
  refine wpV_callf (v := .bool true) (args := #[.slice (some ⟨g7, 0, none⟩) 2 2]) (by rfl) rfl Tryd.func82 (by kernel_rfl) (by kernel_rfl) rfl (fun W hW => by have h9 : Calls Tryd.prog _ _ W _ := wellp_r (ps := [old, root]) (show 2 ≤ 4611686018427387904 by decide) (RowA.of ((M.sees hW).r 0 0 rfl rfl) ((M.sees hW).lt 0 rfl) rfl (Nat.le_refl _)); rw [ht] at h9; exact h9) ?_
  simp only [putT, List.set]
  refine wpV_not (b := true) (by rfl) rfl rfl ?_
  simp only [Bool.not_true, Bool.not_false]
  simp only [putT, List.set]
  refine wpV_pick (v := .bool false) (by rfl) rfl rfl rfl ?_
  simp only [putT, List.set]
  refine wpV_move (v := .bool false) (by rfl) rfl rfl ?_
  simp only [putT, List.set]
  refine wpV_move (v := .slice ap st.length cp) (by rfl) rfl rfl ?_
  simp only [putT, List.set]
  refine wpV_callf (v := .bool false) (args := #[.slice ap st.length cp]) (by rfl) rfl Tryd.func82 (by kernel_rfl) (by kernel_rfl) rfl (fun W hW => by have h9 : Calls Tryd.prog _ _ W _ := wellp_r (ps := st) hq ((M.sees hW).oldA Hp); rw [hp] at h9; exact h9) ?_
  simp only [putT, List.set]
  refine wpV_not (b := false) (by rfl) rfl rfl ?_
  simp only [Bool.not_true, Bool.not_false]
  simp only [putT, List.set]
  refine wpV_pick (v := .bool true) (by rfl) rfl rfl rfl ?_
  simp only [putT, List.set]
  refine wpV_nil (hLk _ (fun w9 Sw9 => ?_))
  clear hLk Lk
  simp only [List.take, List.drop]
  replace M := M.sees Sw9
  refine wpL_nil (no_panic ?_)
  refine hK4 _ _ ?_
  refine wp_cond_true rfl ?_
  refine wp_seq_k (fun K10 hK10 => ?_)
  refine wp_region_seq ?_
  refine wpL_assign (v := .int .i64 1) (by rfl) (by rfl) (by rfl) ?_
  simp only [putT, List.set]
  refine wpL_nil (no_panic ?_)
  refine hK10 _ _ ?_
  refine wp_ret ?_
  repeat (first | with_reducible refine then_ret ?_ | with_reducible refine inblock_ret ?_)
  refine bodyPost_ret (v := .int .i64 1) (res1 rfl (.tmp (by rfl))) rfl ?_
  have BE := M.below
  exact ⟨rfl, BE⟩
set_option maxHeartbeats 1000000 in
theorem Follows_zero {st : List (List UInt8)} {ap : Option Addr} {np cp : Nat} {old root : List UInt8} {n : Nat} {w : World} (hq : st.length ≤ 4611686018427387904) (hn : n ≤ 4096) (ht : all32 [old, root] = true) (hp : all32 st = true) (L0 : 0 < w.heap.size) (R0_0 : w.rangeAt 0 0 kcells) (Hp : RowA w ap np cp (scells st)) :
    Calls Tryd.prog 67 #[.int .i64 0, .int .i64 ((n : Nat) : Int), .string (bs old), .string (bs root), .slice ap np cp] w fun e w' => e = .returned (.int .i64 (if st.length = 0 ∧ old = rootS [] then 0 else 13)) ∧ Below w.heap.size w w' := by
  obtain rfl : np = st.length := by have := Hp.len; rwa [scells_len] at this
  have h32 := all32_mem hp
  have hl2 := all32_mem ht
  have hol : old.length = 32 := hl2 old (.head _)
  have hrt : root.length = 32 := hl2 root (.tail _ (.head _))
  have hone : old ≠ [] := fun e9 => by rw [e9] at hol; cases hol
  go_enter Tryd.func67, Tryd.ntmps67
  have M := Mem.start w
  refine wp_seq_k (fun K1 hK1 => ?_)
  refine wp_region_seq ?_
  refine wpL_assign (v := .int .i64 0) (by rfl) (by rfl) (by rfl) ?_
  simp only [putT, List.set]
  refine wpL_nil (no_panic ?_)
  refine hK1 _ _ ?_
  refine wp_seq_k (fun K3 hK3 => ?_)
  refine wp_seq_k (fun K4 hK4 => ?_)
  refine wp_region_seq ?_
  refine wpL_move (v := .int .i64 0) (by rfl) (by rfl) (by rfl) ?_
  simp only [putT, List.set]
  refine wpL_chunk 13 (by rfl) (fun Lk hLk => ?_)
  simp only [List.take, List.drop]
  refine wpV_bin (v := .bool false) (by rfl) rfl rfl rfl (fun W => run_lss _ _ _ _ W) ?_
  simp only [putT, List.set]
  refine wpV_move (v := .bool false) (by rfl) rfl rfl ?_
  simp only [putT, List.set]
  refine wpV_move (v := .int .i64 0) (by rfl) rfl rfl ?_
  simp only [putT, List.set]
  refine wpV_move (v := .int .i64 ((n : Nat) : Int)) (by rfl) rfl rfl ?_
  simp only [putT, List.set]
  refine wpV_bin (v := .bool false) (by rfl) rfl rfl rfl (fun W => (run_gtrN 0 n _ _ W).trans (by rw [(decide_eq_false (Nat.not_lt_zero n))])) ?_
  simp only [putT, List.set]
  refine wpV_pick (v := .bool false) (by rfl) rfl rfl rfl ?_
  simp only [putT, List.set]
  refine wpV_move (v := .bool false) (by rfl) rfl rfl ?_
  simp only [putT, List.set]
  refine wpV_move (v := .int .i64 ((n : Nat) : Int)) (by rfl) rfl rfl ?_
  simp only [putT, List.set]
  refine wpV_bin (v := .bool false) (by rfl) rfl rfl rfl (fun W => (run_gtrN n 4096 _ _ W).trans (by rw [(decide_eq_false (Nat.not_lt.2 hn))])) ?_
  simp only [putT, List.set]
  refine wpV_pick (v := .bool false) (by rfl) rfl rfl rfl ?_
  simp only [putT, List.set]
  refine wpV_move (v := .bool false) (by rfl) rfl rfl ?_
  simp only [putT, List.set]
  refine wpV_move (v := .string (bs old)) (by rfl) rfl rfl ?_
  simp only [putT, List.set]
  refine wpV_move (v := .string (bs root)) (by rfl) rfl rfl ?_
  simp only [putT, List.set]
  refine wpV_nil (hLk _ (fun w6 Sw6 => ?_))
  clear hLk Lk
  simp only [List.take, List.drop]
  replace M := M.sees Sw6
  refine wpL_guard (by rfl) ?_
  refine wpL_rowN (vs := [.string (bs old), .string (bs root)]) (z := .string { data := #[] }) (bytes := 16) (by rfl) (by rfl) Tryd.underlying48 (by kernel_rfl) (by decide) (by kernel_rfl) (fun g7 w8 Sw8 Hg7 Bg7 => ?_)
  replace M := ((M.sees Sw8).add (N := 2) (cs := [.string (bs old), .string (bs root)]) (M.ge Hg7) (M.fresh Hg7) Bg7 rfl)
  clear Bg7
  simp only [putT, List.set]
  refine wpL_chunk 8 (by rfl) (fun Lk hLk => ?_)
  simp only [List.take, List.drop]
  refine wpV_callf (v := .bool true) (args := #[.slice (some ⟨g7, 0, none⟩) 2 2]) (by rfl) rfl Tryd.func82 (by kernel_rfl) (by kernel_rfl) rfl (fun W hW => by have h9 : Calls Tryd.prog _ _ W _ := wellp_r (ps := [old, root]) (show 2 ≤ 4611686018427387904 by decide) (RowA.of ((M.sees hW).r 0 0 rfl rfl) ((M.sees hW).lt 0 rfl) rfl (Nat.le_refl _)); rw [ht] at h9; exact h9) ?_
  simp only [putT, List.set]
  refine wpV_not (b := true) (by rfl) rfl rfl ?_
  simp only [Bool.not_true, Bool.not_false]
  simp only [putT, List.set]
  refine wpV_pick (v := .bool false) (by rfl) rfl rfl rfl ?_
  simp only [putT, List.set]
  refine wpV_move (v := .bool false) (by rfl) rfl rfl ?_
  simp only [putT, List.set]
  refine wpV_move (v := .slice ap st.length cp) (by rfl) rfl rfl ?_
  simp only [putT, List.set]
  refine wpV_callf (v := .bool true) (args := #[.slice ap st.length cp]) (by rfl) rfl Tryd.func82 (by kernel_rfl) (by kernel_rfl) rfl (fun W hW => by have h9 : Calls Tryd.prog _ _ W _ := wellp_r (ps := st) hq ((M.sees hW).oldA Hp); rw [hp] at h9; exact h9) ?_
  simp only [putT, List.set]
  refine wpV_not (b := true) (by rfl) rfl rfl ?_
  simp only [Bool.not_true, Bool.not_false]
  simp only [putT, List.set]
  refine wpV_pick (v := .bool false) (by rfl) rfl rfl rfl ?_
  simp only [putT, List.set]
  refine wpV_nil (hLk _ (fun w9 Sw9 => ?_))
  clear hLk Lk
  simp only [List.take, List.drop]
  replace M := M.sees Sw9
  refine wpL_nil (no_panic ?_)
  refine hK4 _ _ ?_
  refine wp_cond_false rfl ?_
  refine wp_skip ?_
  refine hK3 _ _ ?_
  refine wp_seq_k (fun K10 hK10 => ?_)
  refine wp_region_seq ?_
  refine wpL_chunk 4 (by rfl) (fun Lk hLk => ?_)
  simp only [List.take, List.drop]
  refine wpV_callf (v := .tuple #[.string (bs (rootS [])), .int .i64 0]) (args := #[(.slice none 0 0)]) (by rfl) rfl Tryd.func37 (by kernel_rfl) (by kernel_rfl) rfl (fun W hW => Root_c0 ((M.sees hW).oldL L0) ((M.sees hW).oldR R0_0 L0)) ?_
  simp only [putT, List.set]
  refine wpV_move (v := .tuple #[.string (bs (rootS [])), .int .i64 0]) (by rfl) rfl rfl ?_
  simp only [putT, List.set]
  refine wpV_extract (v := .string (bs (rootS []))) (by rfl) rfl rfl rfl ?_
  simp only [putT, List.set]
  refine wpV_extract (v := .int .i64 0) (by rfl) rfl rfl rfl ?_
  simp only [putT, List.set]
  refine wpV_nil (hLk _ (fun w12 Sw12 => ?_))
  clear hLk Lk
  simp only [List.take, List.drop]
  replace M := M.sees Sw12
  refine wpL_assign (v := .string (bs (rootS []))) (by rfl) (by rfl) (by rfl) ?_
  simp only [putT, List.set]
  refine wpL_assign (v := .int .i64 0) (by rfl) (by rfl) (by rfl) ?_
  simp only [putT, List.set]
  refine wpL_nil (no_panic ?_)
  refine hK10 _ _ ?_
  refine wp_seq_k (fun K13 hK13 => ?_)
  refine wp_region_seq ?_
  refine wpL_assign (v := .bool true) (by rfl) (by rfl) (by rfl) ?_
  simp only [putT, List.set]
  refine wpL_nil (no_panic ?_)
  refine hK13 _ _ ?_
  refine wp_seq_k (fun K15 hK15 => ?_)
  refine wp_block ?_
  refine wp_seq_k (fun K16 hK16 => ?_)
  refine wp_region_seq ?_
  refine wpL_move (v := .int .i64 0) (by rfl) (by rfl) (by rfl) ?_
  simp only [putT, List.set]
  refine wpL_chunk 1 (by rfl) (fun Lk hLk => ?_)
  simp only [List.take, List.drop]
  refine wpV_bin (v := .bool true) (by rfl) rfl rfl rfl (fun W => run_eql _ _ _ _ W) ?_
  simp only [putT, List.set]
  refine wpV_nil (hLk _ (fun w18 Sw18 => ?_))
  clear hLk Lk
  simp only [List.take, List.drop]
  replace M := M.sees Sw18
  refine wpL_assign (v := .bool true) (by rfl) (by rfl) (by rfl) ?_
  simp only [putT, List.set]
  refine wpL_nil (no_panic ?_)
  refine hK16 _ _ ?_
  refine wp_cond_true rfl ?_
  cases hg19 : (decide (st.length = 0))
  · skip
    have hz : ¬ st.length = 0 := of_decide_eq_false hg19
    refine wp_region_seq ?_
    refine wpL_move (v := .slice ap st.length cp) (by rfl) (by rfl) (by rfl) ?_
    simp only [putT, List.set]
    refine wpL_chunk 7 (by rfl) (fun Lk hLk => ?_)
    simp only [List.take, List.drop]
    refine wpV_lenA (n := st.length) (by rfl) rfl rfl rfl Tryd.underlying48 ?_
    simp only [putT, List.set]
    refine wpV_bin (v := .bool false) (by rfl) rfl rfl rfl (fun W => (run_eqlN st.length 0 _ _ W).trans (by rw [hg19])) ?_
    simp only [putT, List.set]
    refine wpV_move (v := .bool false) (by rfl) rfl rfl ?_
    simp only [putT, List.set]
    refine wpV_skip (by rfl) (by rfl) ?_
    simp only [putT, List.set]
    refine wpV_skip (by rfl) (by rfl) ?_
    simp only [putT, List.set]
    refine wpV_skip (by rfl) (by rfl) ?_
    simp only [putT, List.set]
    refine wpV_pick (v := .bool false) (by rfl) rfl rfl rfl ?_
    simp only [putT, List.set]
    refine wpV_nil (hLk _ (fun w21 Sw21 => ?_))
    clear hLk Lk
    simp only [List.take, List.drop]
    replace M := M.sees Sw21
    refine wpL_assign (v := .bool false) (by rfl) (by rfl) (by rfl) ?_
    simp only [putT, List.set]
    refine wpL_nil (no_panic ?_)
    refine hK15 _ _ ?_
    refine wp_seq_k (fun K22 hK22 => ?_)
    refine wp_seq_k (fun K23 hK23 => ?_)
    refine wp_region_seq ?_
    refine wpL_move (v := .bool false) (by rfl) (by rfl) (by rfl) ?_
    simp only [putT, List.set]
    refine wpL_chunk 1 (by rfl) (fun Lk hLk => ?_)
    simp only [List.take, List.drop]
    refine wpV_not (b := false) (by rfl) rfl rfl ?_
    simp only [Bool.not_true, Bool.not_false]
    simp only [putT, List.set]
    refine wpV_nil (hLk _ (fun w25 Sw25 => ?_))
    clear hLk Lk
    simp only [List.take, List.drop]
    replace M := M.sees Sw25
    refine wpL_nil (no_panic ?_)
    refine hK23 _ _ ?_
    refine wp_cond_true rfl ?_
    refine wp_seq_k (fun K26 hK26 => ?_)
    refine wp_region_seq ?_
    refine wpL_assign (v := .int .i64 13) (by rfl) (by rfl) (by rfl) ?_
    simp only [putT, List.set]
    refine wpL_nil (no_panic ?_)
    refine hK26 _ _ ?_
    refine wp_ret ?_
    repeat (first | with_reducible refine then_ret ?_ | with_reducible refine inblock_ret ?_)
    refine bodyPost_ret (v := .int .i64 13) (res1 rfl (.tmp (by rfl))) rfl ?_
    have BE := M.below
    exact ⟨by rw [if_neg (fun q9 => hz q9.1)], BE⟩
  · skip
    have hz : st.length = 0 := of_decide_eq_true hg19
    refine wp_region_seq ?_
    refine wpL_move (v := .slice ap st.length cp) (by rfl) (by rfl) (by rfl) ?_
    simp only [putT, List.set]
    refine wpL_chunk 7 (by rfl) (fun Lk hLk => ?_)
    simp only [List.take, List.drop]
    refine wpV_lenA (n := st.length) (by rfl) rfl rfl rfl Tryd.underlying48 ?_
    simp only [putT, List.set]
    refine wpV_bin (v := .bool true) (by rfl) rfl rfl rfl (fun W => (run_eqlN st.length 0 _ _ W).trans (by rw [hg19])) ?_
    simp only [putT, List.set]
    refine wpV_move (v := .bool true) (by rfl) rfl rfl ?_
    simp only [putT, List.set]
    refine wpV_move (v := .string (bs old)) (by rfl) rfl rfl ?_
    simp only [putT, List.set]
    refine wpV_move (v := .string (bs (rootS []))) (by rfl) rfl rfl ?_
    simp only [putT, List.set]
    refine wpV_binS (v := .bool (decide (old = rootS []))) (by rfl) rfl rfl rfl (run_eql_bs _ _ _) ?_
    simp only [putT, List.set]
    refine wpV_pick (v := .bool (decide (old = rootS []))) (by rfl) rfl rfl rfl ?_
    simp only [putT, List.set]
    refine wpV_nil (hLk _ (fun w29 Sw29 => ?_))
    clear hLk Lk
    simp only [List.take, List.drop]
    replace M := M.sees Sw29
    refine wpL_assign (v := .bool (decide (old = rootS []))) (by rfl) (by rfl) (by rfl) ?_
    simp only [putT, List.set]
    refine wpL_nil (no_panic ?_)
    refine hK15 _ _ ?_
    refine wp_seq_k (fun K30 hK30 => ?_)
    refine wp_seq_k (fun K31 hK31 => ?_)
    refine wp_region_seq ?_
    refine wpL_move (v := .bool (decide (old = rootS []))) (by rfl) (by rfl) (by rfl) ?_
    simp only [putT, List.set]
    refine wpL_chunk 1 (by rfl) (fun Lk hLk => ?_)
    simp only [List.take, List.drop]
    refine wpV_not (b := decide (old = rootS [])) (by rfl) rfl rfl ?_
    simp only [putT, List.set]
    refine wpV_nil (hLk _ (fun w33 Sw33 => ?_))
    clear hLk Lk
    simp only [List.take, List.drop]
    replace M := M.sees Sw33
    refine wpL_nil (no_panic ?_)
    refine hK31 _ _ ?_
    cases hc34 : (!(decide (old = rootS [])))
    · skip
      have hr : old = rootS [] := of_decide_eq_true (by simpa using hc34 : decide (old = rootS []) = true)
      refine wp_cond_false rfl ?_
      refine wp_skip ?_
      refine hK30 _ _ ?_
      refine wp_seq_k (fun K35 hK35 => ?_)
      refine wp_region_seq ?_
      refine wpL_assign (v := .int .i64 0) (by rfl) (by rfl) (by rfl) ?_
      simp only [putT, List.set]
      refine wpL_nil (no_panic ?_)
      refine hK35 _ _ ?_
      refine wp_ret ?_
      repeat (first | with_reducible refine then_ret ?_ | with_reducible refine inblock_ret ?_)
      refine bodyPost_ret (v := .int .i64 0) (res1 rfl (.tmp (by rfl))) rfl ?_
      have BE := M.below
      exact ⟨by rw [if_pos ⟨hz, hr⟩], BE⟩
    · skip
      have hr : ¬ old = rootS [] := of_decide_eq_false (by simpa using hc34 : decide (old = rootS []) = false)
      refine wp_cond_true rfl ?_
      refine wp_seq_k (fun K37 hK37 => ?_)
      refine wp_region_seq ?_
      refine wpL_assign (v := .int .i64 13) (by rfl) (by rfl) (by rfl) ?_
      simp only [putT, List.set]
      refine wpL_nil (no_panic ?_)
      refine hK37 _ _ ?_
      refine wp_ret ?_
      repeat (first | with_reducible refine then_ret ?_ | with_reducible refine inblock_ret ?_)
      refine bodyPost_ret (v := .int .i64 13) (res1 rfl (.tmp (by rfl))) rfl ?_
      have BE := M.below
      exact ⟨by rw [if_neg (fun q9 => hr q9.2)], BE⟩
set_option maxHeartbeats 1000000 in
theorem Follows_all {st : List (List UInt8)} {ap : Option Addr} {np cp : Nat} {old root : List UInt8} {m n : Nat} {w : World} (hq : st.length ≤ 4611686018427387904) (hn : n ≤ 4096) (ht : all32 [old, root] = true) (hp : all32 st = true) (h1 : 1 ≤ m) (hmn : m = n) (L0 : 0 < w.heap.size) (R0_0 : w.rangeAt 0 0 kcells) (Hp : RowA w ap np cp (scells st)) :
    Calls Tryd.prog 67 #[.int .i64 ((m : Nat) : Int), .int .i64 ((n : Nat) : Int), .string (bs old), .string (bs root), .slice ap np cp] w fun e w' => e = .returned (.int .i64 (if folB m n old root st = true then 0 else 13)) ∧ Below w.heap.size w w' := by
  obtain rfl : np = st.length := by have := Hp.len; rwa [scells_len] at this
  have h32 := all32_mem hp
  have hl2 := all32_mem ht
  have hol : old.length = 32 := hl2 old (.head _)
  have hrt : root.length = 32 := hl2 root (.tail _ (.head _))
  have hone : old ≠ [] := fun e9 => by rw [e9] at hol; cases hol
  go_enter Tryd.func67, Tryd.ntmps67
  have M := Mem.start w
  refine wp_seq_k (fun K1 hK1 => ?_)
  refine wp_region_seq ?_
  refine wpL_assign (v := .int .i64 0) (by rfl) (by rfl) (by rfl) ?_
  simp only [putT, List.set]
  refine wpL_nil (no_panic ?_)
  refine hK1 _ _ ?_
  refine wp_seq_k (fun K3 hK3 => ?_)
  refine wp_seq_k (fun K4 hK4 => ?_)
  refine wp_region_seq ?_
  refine wpL_move (v := .int .i64 ((m : Nat) : Int)) (by rfl) (by rfl) (by rfl) ?_
  simp only [putT, List.set]
  refine wpL_chunk 13 (by rfl) (fun Lk hLk => ?_)
  simp only [List.take, List.drop]
  refine wpV_bin (v := .bool false) (by rfl) rfl rfl rfl (fun W => (run_lssN m 0 _ _ W).trans (by rw [(decide_eq_false (Nat.not_lt_zero m))])) ?_
  simp only [putT, List.set]
  refine wpV_move (v := .bool false) (by rfl) rfl rfl ?_
  simp only [putT, List.set]
  refine wpV_move (v := .int .i64 ((m : Nat) : Int)) (by rfl) rfl rfl ?_
  simp only [putT, List.set]
  refine wpV_move (v := .int .i64 ((n : Nat) : Int)) (by rfl) rfl rfl ?_
  simp only [putT, List.set]
  refine wpV_bin (v := .bool false) (by rfl) rfl rfl rfl (fun W => (run_gtrN m n _ _ W).trans (by rw [(decide_eq_false (by omega))])) ?_
  simp only [putT, List.set]
  refine wpV_pick (v := .bool false) (by rfl) rfl rfl rfl ?_
  simp only [putT, List.set]
  refine wpV_move (v := .bool false) (by rfl) rfl rfl ?_
  simp only [putT, List.set]
  refine wpV_move (v := .int .i64 ((n : Nat) : Int)) (by rfl) rfl rfl ?_
  simp only [putT, List.set]
  refine wpV_bin (v := .bool false) (by rfl) rfl rfl rfl (fun W => (run_gtrN n 4096 _ _ W).trans (by rw [(decide_eq_false (Nat.not_lt.2 hn))])) ?_
  simp only [putT, List.set]
  refine wpV_pick (v := .bool false) (by rfl) rfl rfl rfl ?_
  simp only [putT, List.set]
  refine wpV_move (v := .bool false) (by rfl) rfl rfl ?_
  simp only [putT, List.set]
  refine wpV_move (v := .string (bs old)) (by rfl) rfl rfl ?_
  simp only [putT, List.set]
  refine wpV_move (v := .string (bs root)) (by rfl) rfl rfl ?_
  simp only [putT, List.set]
  refine wpV_nil (hLk _ (fun w6 Sw6 => ?_))
  clear hLk Lk
  simp only [List.take, List.drop]
  replace M := M.sees Sw6
  refine wpL_guard (by rfl) ?_
  refine wpL_rowN (vs := [.string (bs old), .string (bs root)]) (z := .string { data := #[] }) (bytes := 16) (by rfl) (by rfl) Tryd.underlying48 (by kernel_rfl) (by decide) (by kernel_rfl) (fun g7 w8 Sw8 Hg7 Bg7 => ?_)
  replace M := ((M.sees Sw8).add (N := 2) (cs := [.string (bs old), .string (bs root)]) (M.ge Hg7) (M.fresh Hg7) Bg7 rfl)
  clear Bg7
  simp only [putT, List.set]
  refine wpL_chunk 8 (by rfl) (fun Lk hLk => ?_)
  simp only [List.take, List.drop]
  refine wpV_callf (v := .bool true) (args := #[.slice (some ⟨g7, 0, none⟩) 2 2]) (by rfl) rfl Tryd.func82 (by kernel_rfl) (by kernel_rfl) rfl (fun W hW => by have h9 : Calls Tryd.prog _ _ W _ := wellp_r (ps := [old, root]) (show 2 ≤ 4611686018427387904 by decide) (RowA.of ((M.sees hW).r 0 0 rfl rfl) ((M.sees hW).lt 0 rfl) rfl (Nat.le_refl _)); rw [ht] at h9; exact h9) ?_
  simp only [putT, List.set]
  refine wpV_not (b := true) (by rfl) rfl rfl ?_
  simp only [Bool.not_true, Bool.not_false]
  simp only [putT, List.set]
  refine wpV_pick (v := .bool false) (by rfl) rfl rfl rfl ?_
  simp only [putT, List.set]
  refine wpV_move (v := .bool false) (by rfl) rfl rfl ?_
  simp only [putT, List.set]
  refine wpV_move (v := .slice ap st.length cp) (by rfl) rfl rfl ?_
  simp only [putT, List.set]
  refine wpV_callf (v := .bool true) (args := #[.slice ap st.length cp]) (by rfl) rfl Tryd.func82 (by kernel_rfl) (by kernel_rfl) rfl (fun W hW => by have h9 : Calls Tryd.prog _ _ W _ := wellp_r (ps := st) hq ((M.sees hW).oldA Hp); rw [hp] at h9; exact h9) ?_
  simp only [putT, List.set]
  refine wpV_not (b := true) (by rfl) rfl rfl ?_
  simp only [Bool.not_true, Bool.not_false]
  simp only [putT, List.set]
  refine wpV_pick (v := .bool false) (by rfl) rfl rfl rfl ?_
  simp only [putT, List.set]
  refine wpV_nil (hLk _ (fun w9 Sw9 => ?_))
  clear hLk Lk
  simp only [List.take, List.drop]
  replace M := M.sees Sw9
  refine wpL_nil (no_panic ?_)
  refine hK4 _ _ ?_
  refine wp_cond_false rfl ?_
  refine wp_skip ?_
  refine hK3 _ _ ?_
  refine wp_seq_k (fun K10 hK10 => ?_)
  refine wp_region_seq ?_
  refine wpL_chunk 4 (by rfl) (fun Lk hLk => ?_)
  simp only [List.take, List.drop]
  refine wpV_callf (v := .tuple #[.string (bs (rootS [])), .int .i64 0]) (args := #[(.slice none 0 0)]) (by rfl) rfl Tryd.func37 (by kernel_rfl) (by kernel_rfl) rfl (fun W hW => Root_c0 ((M.sees hW).oldL L0) ((M.sees hW).oldR R0_0 L0)) ?_
  simp only [putT, List.set]
  refine wpV_move (v := .tuple #[.string (bs (rootS [])), .int .i64 0]) (by rfl) rfl rfl ?_
  simp only [putT, List.set]
  refine wpV_extract (v := .string (bs (rootS []))) (by rfl) rfl rfl rfl ?_
  simp only [putT, List.set]
  refine wpV_extract (v := .int .i64 0) (by rfl) rfl rfl rfl ?_
  simp only [putT, List.set]
  refine wpV_nil (hLk _ (fun w12 Sw12 => ?_))
  clear hLk Lk
  simp only [List.take, List.drop]
  replace M := M.sees Sw12
  refine wpL_assign (v := .string (bs (rootS []))) (by rfl) (by rfl) (by rfl) ?_
  simp only [putT, List.set]
  refine wpL_assign (v := .int .i64 0) (by rfl) (by rfl) (by rfl) ?_
  simp only [putT, List.set]
  refine wpL_nil (no_panic ?_)
  refine hK10 _ _ ?_
  refine wp_seq_k (fun K13 hK13 => ?_)
  refine wp_region_seq ?_
  refine wpL_assign (v := .bool true) (by rfl) (by rfl) (by rfl) ?_
  simp only [putT, List.set]
  refine wpL_nil (no_panic ?_)
  refine hK13 _ _ ?_
  refine wp_seq_k (fun K15 hK15 => ?_)
  refine wp_block ?_
  refine wp_seq_k (fun K16 hK16 => ?_)
  refine wp_region_seq ?_
  refine wpL_move (v := .int .i64 ((m : Nat) : Int)) (by rfl) (by rfl) (by rfl) ?_
  simp only [putT, List.set]
  refine wpL_chunk 1 (by rfl) (fun Lk hLk => ?_)
  simp only [List.take, List.drop]
  refine wpV_bin (v := .bool false) (by rfl) rfl rfl rfl (fun W => (run_eqlN m 0 _ _ W).trans (by rw [(decide_eq_false (by omega))])) ?_
  simp only [putT, List.set]
  refine wpV_nil (hLk _ (fun w18 Sw18 => ?_))
  clear hLk Lk
  simp only [List.take, List.drop]
  replace M := M.sees Sw18
  refine wpL_assign (v := .bool false) (by rfl) (by rfl) (by rfl) ?_
  simp only [putT, List.set]
  refine wpL_nil (no_panic ?_)
  refine hK16 _ _ ?_
  refine wp_cond_false rfl ?_
  refine wp_seq_k (fun K19 hK19 => ?_)
  refine wp_region_seq ?_
  refine wpL_move (v := .int .i64 ((m : Nat) : Int)) (by rfl) (by rfl) (by rfl) ?_
  simp only [putT, List.set]
  refine wpL_move (v := .int .i64 ((n : Nat) : Int)) (by rfl) (by rfl) (by rfl) ?_
  simp only [putT, List.set]
  refine wpL_chunk 1 (by rfl) (fun Lk hLk => ?_)
  simp only [List.take, List.drop]
  refine wpV_bin (v := .bool true) (by rfl) rfl rfl rfl (fun W => (run_eqlN m n _ _ W).trans (by rw [(decide_eq_true hmn)])) ?_
  simp only [putT, List.set]
  refine wpV_nil (hLk _ (fun w21 Sw21 => ?_))
  clear hLk Lk
  simp only [List.take, List.drop]
  replace M := M.sees Sw21
  refine wpL_assign (v := .bool true) (by rfl) (by rfl) (by rfl) ?_
  simp only [putT, List.set]
  refine wpL_nil (no_panic ?_)
  refine hK19 _ _ ?_
  refine wp_cond_true rfl ?_
  cases hg22 : (decide (st.length = 0))
  · skip
    have hz : ¬ st.length = 0 := of_decide_eq_false hg22
    refine wp_region_seq ?_
    refine wpL_move (v := .slice ap st.length cp) (by rfl) (by rfl) (by rfl) ?_
    simp only [putT, List.set]
    refine wpL_chunk 7 (by rfl) (fun Lk hLk => ?_)
    simp only [List.take, List.drop]
    refine wpV_lenA (n := st.length) (by rfl) rfl rfl rfl Tryd.underlying48 ?_
    simp only [putT, List.set]
    refine wpV_bin (v := .bool false) (by rfl) rfl rfl rfl (fun W => (run_eqlN st.length 0 _ _ W).trans (by rw [hg22])) ?_
    simp only [putT, List.set]
    refine wpV_move (v := .bool false) (by rfl) rfl rfl ?_
    simp only [putT, List.set]
    refine wpV_skip (by rfl) (by rfl) ?_
    simp only [putT, List.set]
    refine wpV_skip (by rfl) (by rfl) ?_
    simp only [putT, List.set]
    refine wpV_skip (by rfl) (by rfl) ?_
    simp only [putT, List.set]
    refine wpV_pick (v := .bool false) (by rfl) rfl rfl rfl ?_
    simp only [putT, List.set]
    refine wpV_nil (hLk _ (fun w24 Sw24 => ?_))
    clear hLk Lk
    simp only [List.take, List.drop]
    replace M := M.sees Sw24
    refine wpL_assign (v := .bool false) (by rfl) (by rfl) (by rfl) ?_
    simp only [putT, List.set]
    refine wpL_nil (no_panic ?_)
    refine hK15 _ _ ?_
    refine wp_seq_k (fun K25 hK25 => ?_)
    refine wp_seq_k (fun K26 hK26 => ?_)
    refine wp_region_seq ?_
    refine wpL_move (v := .bool false) (by rfl) (by rfl) (by rfl) ?_
    simp only [putT, List.set]
    refine wpL_chunk 1 (by rfl) (fun Lk hLk => ?_)
    simp only [List.take, List.drop]
    refine wpV_not (b := false) (by rfl) rfl rfl ?_
    simp only [Bool.not_true, Bool.not_false]
    simp only [putT, List.set]
    refine wpV_nil (hLk _ (fun w28 Sw28 => ?_))
    clear hLk Lk
    simp only [List.take, List.drop]
    replace M := M.sees Sw28
    refine wpL_nil (no_panic ?_)
    refine hK26 _ _ ?_
    refine wp_cond_true rfl ?_
    refine wp_seq_k (fun K29 hK29 => ?_)
    refine wp_region_seq ?_
    refine wpL_assign (v := .int .i64 13) (by rfl) (by rfl) (by rfl) ?_
    simp only [putT, List.set]
    refine wpL_nil (no_panic ?_)
    refine hK29 _ _ ?_
    refine wp_ret ?_
    repeat (first | with_reducible refine then_ret ?_ | with_reducible refine inblock_ret ?_)
    refine bodyPost_ret (v := .int .i64 13) (res1 rfl (.tmp (by rfl))) rfl ?_
    have BE := M.below
    exact ⟨by rw [if_neg (fun q9 => hz ((folB_all (Nat.le_of_eq hmn.symm) hone).1 q9).1)], BE⟩
  · skip
    have hz : st.length = 0 := of_decide_eq_true hg22
    refine wp_region_seq ?_
    refine wpL_move (v := .slice ap st.length cp) (by rfl) (by rfl) (by rfl) ?_
    simp only [putT, List.set]
    refine wpL_chunk 7 (by rfl) (fun Lk hLk => ?_)
    simp only [List.take, List.drop]
    refine wpV_lenA (n := st.length) (by rfl) rfl rfl rfl Tryd.underlying48 ?_
    simp only [putT, List.set]
    refine wpV_bin (v := .bool true) (by rfl) rfl rfl rfl (fun W => (run_eqlN st.length 0 _ _ W).trans (by rw [hg22])) ?_
    simp only [putT, List.set]
    refine wpV_move (v := .bool true) (by rfl) rfl rfl ?_
    simp only [putT, List.set]
    refine wpV_move (v := .string (bs old)) (by rfl) rfl rfl ?_
    simp only [putT, List.set]
    refine wpV_move (v := .string (bs root)) (by rfl) rfl rfl ?_
    simp only [putT, List.set]
    refine wpV_binS (v := .bool (decide (old = root))) (by rfl) rfl rfl rfl (run_eql_bs _ _ _) ?_
    simp only [putT, List.set]
    refine wpV_pick (v := .bool (decide (old = root))) (by rfl) rfl rfl rfl ?_
    simp only [putT, List.set]
    refine wpV_nil (hLk _ (fun w32 Sw32 => ?_))
    clear hLk Lk
    simp only [List.take, List.drop]
    replace M := M.sees Sw32
    refine wpL_assign (v := .bool (decide (old = root))) (by rfl) (by rfl) (by rfl) ?_
    simp only [putT, List.set]
    refine wpL_nil (no_panic ?_)
    refine hK15 _ _ ?_
    refine wp_seq_k (fun K33 hK33 => ?_)
    refine wp_seq_k (fun K34 hK34 => ?_)
    refine wp_region_seq ?_
    refine wpL_move (v := .bool (decide (old = root))) (by rfl) (by rfl) (by rfl) ?_
    simp only [putT, List.set]
    refine wpL_chunk 1 (by rfl) (fun Lk hLk => ?_)
    simp only [List.take, List.drop]
    refine wpV_not (b := decide (old = root)) (by rfl) rfl rfl ?_
    simp only [putT, List.set]
    refine wpV_nil (hLk _ (fun w36 Sw36 => ?_))
    clear hLk Lk
    simp only [List.take, List.drop]
    replace M := M.sees Sw36
    refine wpL_nil (no_panic ?_)
    refine hK34 _ _ ?_
    cases hc37 : (!(decide (old = root)))
    · skip
      have hr : old = root := of_decide_eq_true (by simpa using hc37 : decide (old = root) = true)
      refine wp_cond_false rfl ?_
      refine wp_skip ?_
      refine hK33 _ _ ?_
      refine wp_seq_k (fun K38 hK38 => ?_)
      refine wp_region_seq ?_
      refine wpL_assign (v := .int .i64 0) (by rfl) (by rfl) (by rfl) ?_
      simp only [putT, List.set]
      refine wpL_nil (no_panic ?_)
      refine hK38 _ _ ?_
      refine wp_ret ?_
      repeat (first | with_reducible refine then_ret ?_ | with_reducible refine inblock_ret ?_)
      refine bodyPost_ret (v := .int .i64 0) (res1 rfl (.tmp (by rfl))) rfl ?_
      have BE := M.below
      exact ⟨by rw [if_pos ((folB_all (Nat.le_of_eq hmn.symm) hone).2 ⟨hz, hr⟩)], BE⟩
    · skip
      have hr : ¬ old = root := of_decide_eq_false (by simpa using hc37 : decide (old = root) = false)
      refine wp_cond_true rfl ?_
      refine wp_seq_k (fun K40 hK40 => ?_)
      refine wp_region_seq ?_
      refine wpL_assign (v := .int .i64 13) (by rfl) (by rfl) (by rfl) ?_
      simp only [putT, List.set]
      refine wpL_nil (no_panic ?_)
      refine hK40 _ _ ?_
      refine wp_ret ?_
      repeat (first | with_reducible refine then_ret ?_ | with_reducible refine inblock_ret ?_)
      refine bodyPost_ret (v := .int .i64 13) (res1 rfl (.tmp (by rfl))) rfl ?_
      have BE := M.below
      exact ⟨by rw [if_neg (fun q9 => hr ((folB_all (Nat.le_of_eq hmn.symm) hone).1 q9).2)], BE⟩
set_option maxHeartbeats 1000000 in
theorem Follows_go {st : List (List UInt8)} {ap : Option Addr} {np cp : Nat} {old root : List UInt8} {m n : Nat} {w : World} (hq : st.length ≤ 4611686018427387904) (hn : n ≤ 4096) (ht : all32 [old, root] = true) (hp : all32 st = true) (h1 : 1 ≤ m) (hmn : m < n) (L0 : 0 < w.heap.size) (R0_0 : w.rangeAt 0 0 kcells) (Hp : RowA w ap np cp (scells st)) :
    Calls Tryd.prog 67 #[.int .i64 ((m : Nat) : Int), .int .i64 ((n : Nat) : Int), .string (bs old), .string (bs root), .slice ap np cp] w fun e w' => e = .returned (.int .i64 (if folB m n old root st = true then 0 else 13)) ∧ Below w.heap.size w w' := by
  obtain rfl : np = st.length := by have := Hp.len; rwa [scells_len] at this
  have h32 := all32_mem hp
  have hl2 := all32_mem ht
  have hol : old.length = 32 := hl2 old (.head _)
  have hrt : root.length = 32 := hl2 root (.tail _ (.head _))
  have hone : old ≠ [] := fun e9 => by rw [e9] at hol; cases hol
  go_enter Tryd.func67, Tryd.ntmps67
  have M := Mem.start w
  refine wp_seq_k (fun K1 hK1 => ?_)
  refine wp_region_seq ?_
  refine wpL_assign (v := .int .i64 0) (by rfl) (by rfl) (by rfl) ?_
  simp only [putT, List.set]
  refine wpL_nil (no_panic ?_)
  refine hK1 _ _ ?_
  refine wp_seq_k (fun K3 hK3 => ?_)
  refine wp_seq_k (fun K4 hK4 => ?_)
  refine wp_region_seq ?_
  refine wpL_move (v := .int .i64 ((m : Nat) : Int)) (by rfl) (by rfl) (by rfl) ?_
  simp only [putT, List.set]
  refine wpL_chunk 13 (by rfl) (fun Lk hLk => ?_)
  simp only [List.take, List.drop]
  refine wpV_bin (v := .bool false) (by rfl) rfl rfl rfl (fun W => (run_lssN m 0 _ _ W).trans (by rw [(decide_eq_false (Nat.not_lt_zero m))])) ?_
  simp only [putT, List.set]
  refine wpV_move (v := .bool false) (by rfl) rfl rfl ?_
  simp only [putT, List.set]
  refine wpV_move (v := .int .i64 ((m : Nat) : Int)) (by rfl) rfl rfl ?_
  simp only [putT, List.set]
  refine wpV_move (v := .int .i64 ((n : Nat) : Int)) (by rfl) rfl rfl ?_
  simp only [putT, List.set]
  refine wpV_bin (v := .bool false) (by rfl) rfl rfl rfl (fun W => (run_gtrN m n _ _ W).trans (by rw [(decide_eq_false (by omega))])) ?_
  simp only [putT, List.set]
  refine wpV_pick (v := .bool false) (by rfl) rfl rfl rfl ?_
  simp only [putT, List.set]
  refine wpV_move (v := .bool false) (by rfl) rfl rfl ?_
  simp only [putT, List.set]
  refine wpV_move (v := .int .i64 ((n : Nat) : Int)) (by rfl) rfl rfl ?_
  simp only [putT, List.set]
  refine wpV_bin (v := .bool false) (by rfl) rfl rfl rfl (fun W => (run_gtrN n 4096 _ _ W).trans (by rw [(decide_eq_false (Nat.not_lt.2 hn))])) ?_
  simp only [putT, List.set]
  refine wpV_pick (v := .bool false) (by rfl) rfl rfl rfl ?_
  simp only [putT, List.set]
  refine wpV_move (v := .bool false) (by rfl) rfl rfl ?_
  simp only [putT, List.set]
  refine wpV_move (v := .string (bs old)) (by rfl) rfl rfl ?_
  simp only [putT, List.set]
  refine wpV_move (v := .string (bs root)) (by rfl) rfl rfl ?_
  simp only [putT, List.set]
  refine wpV_nil (hLk _ (fun w6 Sw6 => ?_))
  clear hLk Lk
  simp only [List.take, List.drop]
  replace M := M.sees Sw6
  refine wpL_guard (by rfl) ?_
  refine wpL_rowN (vs := [.string (bs old), .string (bs root)]) (z := .string { data := #[] }) (bytes := 16) (by rfl) (by rfl) Tryd.underlying48 (by kernel_rfl) (by decide) (by kernel_rfl) (fun g7 w8 Sw8 Hg7 Bg7 => ?_)
  replace M := ((M.sees Sw8).add (N := 2) (cs := [.string (bs old), .string (bs root)]) (M.ge Hg7) (M.fresh Hg7) Bg7 rfl)
  clear Bg7
  simp only [putT, List.set]
  refine wpL_chunk 8 (by rfl) (fun Lk hLk => ?_)
  simp only [List.take, List.drop]
  refine wpV_callf (v := .bool true) (args := #[.slice (some ⟨g7, 0, none⟩) 2 2]) (by rfl) rfl Tryd.func82 (by kernel_rfl) (by kernel_rfl) rfl (fun W hW => by have h9 : Calls Tryd.prog _ _ W _ := wellp_r (ps := [old, root]) (show 2 ≤ 4611686018427387904 by decide) (RowA.of ((M.sees hW).r 0 0 rfl rfl) ((M.sees hW).lt 0 rfl) rfl (Nat.le_refl _)); rw [ht] at h9; exact h9) ?_
  simp only [putT, List.set]
  refine wpV_not (b := true) (by rfl) rfl rfl ?_
  simp only [Bool.not_true, Bool.not_false]
  simp only [putT, List.set]
  refine wpV_pick (v := .bool false) (by rfl) rfl rfl rfl ?_
  simp only [putT, List.set]
  refine wpV_move (v := .bool false) (by rfl) rfl rfl ?_
  simp only [putT, List.set]
  refine wpV_move (v := .slice ap st.length cp) (by rfl) rfl rfl ?_
  simp only [putT, List.set]
  refine wpV_callf (v := .bool true) (args := #[.slice ap st.length cp]) (by rfl) rfl Tryd.func82 (by kernel_rfl) (by kernel_rfl) rfl (fun W hW => by have h9 : Calls Tryd.prog _ _ W _ := wellp_r (ps := st) hq ((M.sees hW).oldA Hp); rw [hp] at h9; exact h9) ?_
  simp only [putT, List.set]
  refine wpV_not (b := true) (by rfl) rfl rfl ?_
  simp only [Bool.not_true, Bool.not_false]
  simp only [putT, List.set]
  refine wpV_pick (v := .bool false) (by rfl) rfl rfl rfl ?_
  simp only [putT, List.set]
  refine wpV_nil (hLk _ (fun w9 Sw9 => ?_))
  clear hLk Lk
  simp only [List.take, List.drop]
  replace M := M.sees Sw9
  refine wpL_nil (no_panic ?_)
  refine hK4 _ _ ?_
  refine wp_cond_false rfl ?_
  refine wp_skip ?_
  refine hK3 _ _ ?_
  refine wp_seq_k (fun K10 hK10 => ?_)
  refine wp_region_seq ?_
  refine wpL_chunk 4 (by rfl) (fun Lk hLk => ?_)
  simp only [List.take, List.drop]
  refine wpV_callf (v := .tuple #[.string (bs (rootS [])), .int .i64 0]) (args := #[(.slice none 0 0)]) (by rfl) rfl Tryd.func37 (by kernel_rfl) (by kernel_rfl) rfl (fun W hW => Root_c0 ((M.sees hW).oldL L0) ((M.sees hW).oldR R0_0 L0)) ?_
  simp only [putT, List.set]
  refine wpV_move (v := .tuple #[.string (bs (rootS [])), .int .i64 0]) (by rfl) rfl rfl ?_
  simp only [putT, List.set]
  refine wpV_extract (v := .string (bs (rootS []))) (by rfl) rfl rfl rfl ?_
  simp only [putT, List.set]
  refine wpV_extract (v := .int .i64 0) (by rfl) rfl rfl rfl ?_
  simp only [putT, List.set]
  refine wpV_nil (hLk _ (fun w12 Sw12 => ?_))
  clear hLk Lk
  simp only [List.take, List.drop]
  replace M := M.sees Sw12
  refine wpL_assign (v := .string (bs (rootS []))) (by rfl) (by rfl) (by rfl) ?_
  simp only [putT, List.set]
  refine wpL_assign (v := .int .i64 0) (by rfl) (by rfl) (by rfl) ?_
  simp only [putT, List.set]
  refine wpL_nil (no_panic ?_)
  refine hK10 _ _ ?_
  refine wp_seq_k (fun K13 hK13 => ?_)
  refine wp_region_seq ?_
  refine wpL_assign (v := .bool true) (by rfl) (by rfl) (by rfl) ?_
  simp only [putT, List.set]
  refine wpL_nil (no_panic ?_)
  refine hK13 _ _ ?_
  refine wp_seq_k (fun K15 hK15 => ?_)
  refine wp_block ?_
  refine wp_seq_k (fun K16 hK16 => ?_)
  refine wp_region_seq ?_
  refine wpL_move (v := .int .i64 ((m : Nat) : Int)) (by rfl) (by rfl) (by rfl) ?_
  simp only [putT, List.set]
  refine wpL_chunk 1 (by rfl) (fun Lk hLk => ?_)
  simp only [List.take, List.drop]
  refine wpV_bin (v := .bool false) (by rfl) rfl rfl rfl (fun W => (run_eqlN m 0 _ _ W).trans (by rw [(decide_eq_false (by omega))])) ?_
  simp only [putT, List.set]
  refine wpV_nil (hLk _ (fun w18 Sw18 => ?_))
  clear hLk Lk
  simp only [List.take, List.drop]
  replace M := M.sees Sw18
  refine wpL_assign (v := .bool false) (by rfl) (by rfl) (by rfl) ?_
  simp only [putT, List.set]
  refine wpL_nil (no_panic ?_)
  refine hK16 _ _ ?_
  refine wp_cond_false rfl ?_
  refine wp_seq_k (fun K19 hK19 => ?_)
  refine wp_region_seq ?_
  refine wpL_move (v := .int .i64 ((m : Nat) : Int)) (by rfl) (by rfl) (by rfl) ?_
  simp only [putT, List.set]
  refine wpL_move (v := .int .i64 ((n : Nat) : Int)) (by rfl) (by rfl) (by rfl) ?_
  simp only [putT, List.set]
  refine wpL_chunk 1 (by rfl) (fun Lk hLk => ?_)
  simp only [List.take, List.drop]
  refine wpV_bin (v := .bool false) (by rfl) rfl rfl rfl (fun W => (run_eqlN m n _ _ W).trans (by rw [(decide_eq_false (Nat.ne_of_lt hmn))])) ?_
  simp only [putT, List.set]
  refine wpV_nil (hLk _ (fun w21 Sw21 => ?_))
  clear hLk Lk
  simp only [List.take, List.drop]
  replace M := M.sees Sw21
  refine wpL_assign (v := .bool false) (by rfl) (by rfl) (by rfl) ?_
  simp only [putT, List.set]
  refine wpL_nil (no_panic ?_)
  refine hK19 _ _ ?_
  refine wp_cond_false rfl ?_
  refine wp_region_seq ?_
  refine wpL_move (v := .int .i64 ((m : Nat) : Int)) (by rfl) (by rfl) (by rfl) ?_
  simp only [putT, List.set]
  refine wpL_move (v := .int .i64 ((n : Nat) : Int)) (by rfl) (by rfl) (by rfl) ?_
  simp only [putT, List.set]
  refine wpL_move (v := .string (bs old)) (by rfl) (by rfl) (by rfl) ?_
  simp only [putT, List.set]
  refine wpL_move (v := .string (bs root)) (by rfl) (by rfl) (by rfl) ?_
  simp only [putT, List.set]
  refine wpL_move (v := .slice ap st.length cp) (by rfl) (by rfl) (by rfl) ?_
  simp only [putT, List.set]
  refine wpL_chunk 1 (by rfl) (fun Lk hLk => ?_)
  simp only [List.take, List.drop]
  refine wpV_callf (v := .bool (folB m n old root st)) (args := #[.int .i64 ((m : Nat) : Int), .int .i64 ((n : Nat) : Int), .string (bs old), .string (bs root), .slice ap st.length cp]) (by rfl) rfl Tryd.func87 (by kernel_rfl) (by kernel_rfl) rfl (fun W hW => by with_reducible exact follows_c (st := st) hq h1 hmn hn hol hrt h32 ((M.sees hW).oldL L0) ((M.sees hW).oldR R0_0 L0) ((M.sees hW).oldA Hp)) ?_
  simp only [putT, List.set]
  refine wpV_nil (hLk _ (fun w23 Sw23 => ?_))
  clear hLk Lk
  simp only [List.take, List.drop]
  replace M := M.sees Sw23
  refine wpL_assign (v := .bool (folB m n old root st)) (by rfl) (by rfl) (by rfl) ?_
  simp only [putT, List.set]
  refine wpL_nil (no_panic ?_)
  refine hK15 _ _ ?_
  refine wp_seq_k (fun K24 hK24 => ?_)
  refine wp_seq_k (fun K25 hK25 => ?_)
  refine wp_region_seq ?_
  refine wpL_move (v := .bool (folB m n old root st)) (by rfl) (by rfl) (by rfl) ?_
  simp only [putT, List.set]
  refine wpL_chunk 1 (by rfl) (fun Lk hLk => ?_)
  simp only [List.take, List.drop]
  refine wpV_not (b := folB m n old root st) (by rfl) rfl rfl ?_
  simp only [putT, List.set]
  refine wpV_nil (hLk _ (fun w27 Sw27 => ?_))
  clear hLk Lk
  simp only [List.take, List.drop]
  replace M := M.sees Sw27
  refine wpL_nil (no_panic ?_)
  refine hK25 _ _ ?_
  cases hc28 : (!(folB m n old root st))
  · skip
    have hf : folB m n old root st = true := (by simpa using hc28 : folB m n old root st = true)
    refine wp_cond_false rfl ?_
    refine wp_skip ?_
    refine hK24 _ _ ?_
    refine wp_seq_k (fun K29 hK29 => ?_)
    refine wp_region_seq ?_
    refine wpL_assign (v := .int .i64 0) (by rfl) (by rfl) (by rfl) ?_
    simp only [putT, List.set]
    refine wpL_nil (no_panic ?_)
    refine hK29 _ _ ?_
    refine wp_ret ?_
    repeat (first | with_reducible refine then_ret ?_ | with_reducible refine inblock_ret ?_)
    refine bodyPost_ret (v := .int .i64 0) (res1 rfl (.tmp (by rfl))) rfl ?_
    have BE := M.below
    exact ⟨by rw [if_pos hf], BE⟩
  · skip
    have hf : folB m n old root st = false := (by simpa using hc28 : folB m n old root st = false)
    refine wp_cond_true rfl ?_
    refine wp_seq_k (fun K31 hK31 => ?_)
    refine wp_region_seq ?_
    refine wpL_assign (v := .int .i64 13) (by rfl) (by rfl) (by rfl) ?_
    simp only [putT, List.set]
    refine wpL_nil (no_panic ?_)
    refine hK31 _ _ ?_
    refine wp_ret ?_
    repeat (first | with_reducible refine then_ret ?_ | with_reducible refine inblock_ret ?_)
    refine bodyPost_ret (v := .int .i64 13) (res1 rfl (.tmp (by rfl))) rfl ?_
    have BE := M.below
    exact ⟨by rw [if_neg (by rw [hf]; decide)], BE⟩
theorem Follows_pos {st : List (List UInt8)} {ap : Option Addr} {np cp : Nat} {old root : List UInt8} {m n : Nat} {w : World} (hq : st.length ≤ 4611686018427387904) (hn : n ≤ 4096) (ht : all32 [old, root] = true) (hp : all32 st = true) (h1 : 1 ≤ m) (hmn : m ≤ n) (L0 : 0 < w.heap.size) (R0_0 : w.rangeAt 0 0 kcells) (Hp : RowA w ap np cp (scells st)) :
    Calls Tryd.prog 67 #[.int .i64 ((m : Nat) : Int), .int .i64 ((n : Nat) : Int), .string (bs old), .string (bs root), .slice ap np cp] w fun e w' => e = .returned (.int .i64 (if folB m n old root st = true then 0 else 13)) ∧ Below w.heap.size w w' := by
  by_cases h : m = n
  · exact Follows_all hq hn ht hp h1 h L0 R0_0 Hp
  · exact Follows_go hq hn ht hp h1 (by omega) L0 R0_0 Hp
end Go.Proofs.Yb

namespace Go.Proofs.Yb
open Go Go.RowKit Go.Proofs.Num
attribute [local irreducible] wpV wpN wpList
set_option maxHeartbeats 1000000 in
theorem few9_c1 {ps : List (List UInt8)} {g0 o cg0 ng0 : Nat} {w : World} (hng0 : ng0 = ps.length) (hcg0 : ng0 ≤ cg0) (Lg0 : g0 < w.heap.size) (Rg0_o : w.rangeAt g0 o (scells ps)) :
    Calls Tryd.prog 46 #[.slice (some ⟨g0, o, none⟩) ng0 cg0] w fun e w' => ∃ v, e = .returned v ∧ MemRow w ((cutsS 50 40 ps).length) (scells (cutsS 50 40 ps)) v w' ∧ Below w.heap.size w w' := by
  subst hng0
  go_enter Tryd.func46, Tryd.ntmps46
  have M := Mem.start w
  refine wp_seq_k (fun K1 hK1 => ?_)
  refine wp_region_seq ?_
  refine wpL_assign (v := (.slice none 0 0)) (by rfl) (by rfl) (by rfl) ?_
  simp only [putT, List.set]
  refine wpL_nil (no_panic ?_)
  refine hK1 _ _ ?_
  refine wp_seq_k (fun K3 hK3 => ?_)
  refine wp_region_seq ?_
  refine wpL_row0 (by rfl) (by rfl) Tryd.underlying48 info9 (fun g5 w6 Sw6 Hg5 Bg5 => ?_)
  replace M := ((M.sees Sw6).add (N := 0) (cs := scells []) (M.ge Hg5) (M.fresh Hg5) Bg5 rfl)
  clear Bg5
  simp only [putT, List.set]
  refine wpL_move (v := .slice (some ⟨g0, o, none⟩) ps.length cg0) (by rfl) (by rfl) (by rfl) ?_
  simp only [putT, List.set]
  refine wpL_move (v := .slice (some ⟨g0, o, none⟩) ps.length cg0) (by rfl) (by rfl) (by rfl) ?_
  simp only [putT, List.set]
  refine wpL_chunk 3 (by rfl) (fun Lk hLk => ?_)
  simp only [List.take, List.drop]
  refine wpV_lenA (n := ps.length) (by rfl) rfl rfl rfl Tryd.underlying48 ?_
  simp only [putT, List.set]
  refine wpV_min (n := ps.length) (m := 50) (by rfl) rfl rfl rfl ?_
  simp only [putT, List.set]
  refine wpV_sliceH (hi := min ps.length 50) (by rfl) rfl rfl rfl Tryd.underlying48 info9 (Nat.le_trans (Nat.min_le_left _ _) hcg0) ?_
  simp only [putT, List.set]
  refine wpV_nil (hLk _ (fun w7 Sw7 => ?_))
  clear hLk Lk
  simp only [List.take, List.drop]
  replace M := M.sees Sw7
  refine wpL_append2 (n := 0) (m := min ps.length 50) (olds := scells []) (news := scells (ps.take (min ps.length 50))) (z := .string { data := #[] }) (bytes := 16) (by rfl) (by rfl) (by rfl) (by rfl) Tryd.underlying48 (by kernel_rfl) rfl rfl (by rfl) (by rw [scells_len, List.length_take]; omega) (M.r 0 0 rfl rfl) (M.t 0 rfl) (M.lt 0 rfl) (range_stake (min ps.length 50) (M.oldR Rg0_o Lg0)) (scells_one _) (by omega) (by simp only [maxLen]; omega) (fun g8 g8c w9 Sw9 Q Cg8 R T L => ?_)
  replace M := M.grow 0 rfl Sw9 Q R T L
  simp only [List.set] at M
  clear Q R T L
  rw [show scells [] ++ scells (ps.take (min ps.length 50)) = scells (ps.take (min ps.length 50)) from rfl] at M
  rw [Nat.zero_add] at Cg8
  rw [Nat.zero_add]
  simp only [putT, List.set]
  refine wpL_assign (v := .slice (some ⟨g8, 0, none⟩) (min ps.length 50) g8c) (by rfl) (by rfl) (by rfl) ?_
  simp only [putT, List.set]
  refine wpL_nil (no_panic ?_)
  obtain ⟨qs, hqs⟩ : ∃ qs, qs = List.take (min ps.length 50) ps := ⟨_, rfl⟩
  have hql : qs.length = min ps.length 50 := by rw [hqs, List.length_take]; omega
  rw [← hqs] at M
  rw [← hql] at Cg8
  rw [← hql]
  refine hK3 _ _ ?_
  refine wp_seq_k (fun K10 hK10 => ?_)
  refine wp_seq_k (fun K11 hK11 => ?_)
  refine wp_region_seq ?_
  refine wpL_move (v := .slice (some ⟨g8, 0, none⟩) qs.length g8c) (by rfl) (by rfl) (by rfl) ?_
  simp only [putT, List.set]
  refine wpL_chunk 1 (by rfl) (fun Lk hLk => ?_)
  simp only [List.take, List.drop]
  refine wpV_lenA (n := qs.length) (by rfl) rfl rfl rfl Tryd.underlying48 ?_
  simp only [putT, List.set]
  refine wpV_nil (hLk _ (fun w13 Sw13 => ?_))
  clear hLk Lk
  simp only [List.take, List.drop]
  replace M := M.sees Sw13
  refine wpL_move (v := .int .i64 0) (by rfl) (by rfl) (by rfl) ?_
  simp only [putT, List.set]
  refine wpL_nil (no_panic ?_)
  refine hK11 _ _ ?_
  refine wp_block ?_
  replace M := M.read1 (cs := scells (partS 40 qs 0)) (o := 0) 0 rfl (by rw [partS_zero]; exact (M.r 0 0 rfl rfl))
  simp only [List.set] at M
  refine wp_loop_ghost (fun n9 a9 W9 => ∃ (k : Nat) (u14 : Nat → Value), n9 = qs.length - k ∧ a9 = { tmps := #[.slice (some ⟨g8, 0, none⟩) qs.length g8c, undef, (.slice none 0 0), u14 3, u14 4, .slice (some ⟨g5, 0, none⟩) 0 0, .slice (some ⟨g0, o, none⟩) ps.length cg0, .slice (some ⟨g0, o, none⟩) ps.length cg0, .int .i64 ((ps.length : Nat) : Int), .int .i64 ((qs.length : Nat) : Int), .slice (some ⟨g0, o, none⟩) qs.length cg0, .slice (some ⟨g8, 0, none⟩) qs.length g8c, .slice (some ⟨g8, 0, none⟩) qs.length g8c, .int .i64 ((qs.length : Nat) : Int), .int .i64 ((k : Nat) : Int), u14 15, u14 16, u14 17, u14 18, u14 19, u14 20, u14 21, u14 22, u14 23, u14 24, u14 25, u14 26, u14 27, undef], defers := [] } ∧ Mem [] w W9 [⟨g8, g8c, [(0, scells (partS 40 qs k))]⟩] ∧ (k ≤ qs.length)) (qs.length - (0)) ?_ (fun n9 a9 W9 hI => ?_)
  · exact ⟨0, (fun q9 => (#[undef, undef, undef, undef, undef, undef, undef, undef, undef, undef, undef, undef, undef, undef, undef, undef, undef, undef, undef, undef, undef, undef, undef, undef, undef, undef, undef, undef] : Array Value).getD q9 undef), rfl, rfl, M, (by omega)⟩
  clear M
  obtain ⟨k, u14, rfl, rfl, M, hk4⟩ := hI
  obtain ⟨w15, rfl⟩ : ∃ W8, W8 = W9 := ⟨_, rfl⟩
  refine wp_seq_k (fun K16 hK16 => ?_)
  refine wp_region_seq ?_
  refine wpL_chunk 1 (by rfl) (fun Lk hLk => ?_)
  simp only [List.take, List.drop]
  refine wpV_bin (v := .bool (decide (k < qs.length))) (by rfl) rfl rfl rfl (fun W => run_lssN k qs.length _ _ W) ?_
  simp only [putT, List.set]
  refine wpV_nil (hLk _ (fun w18 Sw18 => ?_))
  clear hLk Lk
  simp only [List.take, List.drop]
  replace M := M.sees Sw18
  refine wpL_nil (no_panic ?_)
  refine hK16 _ _ ?_
  refine wp_seq_k (fun K19 hK19 => ?_)
  cases hc20 : (decide (k < qs.length))
  · skip
    have ek : k = qs.length := by have := of_decide_eq_false hc20; omega
    subst ek
    refine wp_cond_false rfl ?_
    refine wp_exit ?_
    refine hK10 _ _ ?_
    refine wp_seq_k (fun K21 hK21 => ?_)
    refine wp_region_seq ?_
    refine wpL_move (v := .slice (some ⟨g8, 0, none⟩) qs.length g8c) (by rfl) (by rfl) (by rfl) ?_
    simp only [putT, List.set]
    refine wpL_assign (v := .slice (some ⟨g8, 0, none⟩) qs.length g8c) (by rfl) (by rfl) (by rfl) ?_
    simp only [putT, List.set]
    refine wpL_nil (no_panic ?_)
    refine hK21 _ _ ?_
    refine wp_ret ?_
    repeat (first | with_reducible refine then_ret ?_ | with_reducible refine inblock_ret ?_)
    refine bodyPost_ret (v := .slice (some ⟨g8, 0, none⟩) qs.length g8c) (res1 rfl (.tmp (by rfl))) rfl ?_
    have BE := M.below
    rw [partS_end] at M
    rw [cutsS_of hqs, List.length_map]; exact ⟨_, rfl, ⟨g8, g8c, rfl, Cg8, M.pick [0] (by decide) rfl⟩, BE⟩
  · skip
    have hk : k < qs.length := of_decide_eq_true hc20
    refine wp_cond_true rfl ?_
    refine wp_skip ?_
    refine hK19 _ _ ?_
    refine wp_seq_k (fun K23 hK23 => ?_)
    refine wp_block ?_
    refine wp_seq_k (fun K24 hK24 => ?_)
    refine wp_region_seq ?_
    refine wpL_move (v := .int .i64 ((k : Nat) : Int)) (by rfl) (by rfl) (by rfl) ?_
    simp only [putT, List.set]
    refine wpL_chunk 2 (by rfl) (fun Lk hLk => ?_)
    simp only [List.take, List.drop]
    refine wpV_idxs (n := k) (by rfl) rfl rfl rfl Tryd.underlying48 info9 (by omega) ?_
    simp only [Nat.zero_add]
    simp only [putT, List.set]
    refine wpV_load1 (v := .string (bs (qs.getD k []))) (by rfl) rfl rfl (zadd ((M.r 0 0 rfl rfl) _ _ (partS_get 40 hk))) (M.lt 0 rfl) Tryd.underlying9 rfl ?_
    simp only [putT, List.set]
    refine wpV_nil (hLk _ (fun w26 Sw26 => ?_))
    clear hLk Lk
    simp only [List.take, List.drop]
    replace M := M.sees Sw26
    refine wpL_assign (v := .int .i64 ((k : Nat) : Int)) (by rfl) (by rfl) (by rfl) ?_
    simp only [putT, List.set]
    refine wpL_assign (v := .string (bs (qs.getD k []))) (by rfl) (by rfl) (by rfl) ?_
    simp only [putT, List.set]
    refine wpL_nil (no_panic ?_)
    refine hK24 _ _ ?_
    refine wp_region_seq ?_
    refine wpL_move (v := .slice (some ⟨g8, 0, none⟩) qs.length g8c) (by rfl) (by rfl) (by rfl) ?_
    simp only [putT, List.set]
    refine wpL_move (v := .int .i64 ((k : Nat) : Int)) (by rfl) (by rfl) (by rfl) ?_
    simp only [putT, List.set]
    refine wpL_move (v := .string (bs (qs.getD k []))) (by rfl) (by rfl) (by rfl) ?_
    simp only [putT, List.set]
    refine wpL_move (v := .string (bs (qs.getD k []))) (by rfl) (by rfl) (by rfl) ?_
    simp only [putT, List.set]
    refine wpL_chunk 4 (by rfl) (fun Lk hLk => ?_)
    simp only [List.take, List.drop]
    refine wpV_lenS (by rfl) rfl rfl rfl Tryd.underlying9 ?_
    simp only [putT, List.set]
    refine wpV_min (n := (qs.getD k []).length) (m := 40) (by rfl) rfl rfl rfl ?_
    simp only [putT, List.set]
    refine wpV_cut (l := qs.getD k []) (m := 40) (by rfl) rfl rfl rfl Tryd.underlying9 ?_
    simp only [putT, List.set]
    refine wpV_idxs (n := k) (by rfl) rfl rfl rfl Tryd.underlying48 info9 (by omega) ?_
    simp only [Nat.zero_add]
    simp only [putT, List.set]
    refine wpV_nil (hLk _ (fun w28 Sw28 => ?_))
    clear hLk Lk
    simp only [List.take, List.drop]
    replace M := M.sees Sw28
    refine wpL_store1 (g := g8) (off := k) (n := g8c) (v := .string (bs (cut (qs.getD k []) 40))) (by rfl) (by rfl) (by rfl) (by rfl) (by rfl) (M.t 0 rfl) (by omega) info9 rfl (fun w29 P R T => ?_)
    replace M := M.put1 (j := k) 0 rfl P R T (Nat.zero_add _).symm
    simp only [List.set] at M
    rw [partS_set 40 hk] at M
    refine wpL_nil (no_panic ?_)
    refine hK23 _ _ ?_
    refine wp_region_seq ?_
    refine wpL_chunk 1 (by rfl) (fun Lk hLk => ?_)
    simp only [List.take, List.drop]
    refine wpV_bin (v := .int .i64 ((k + 1 : Nat) : Int)) (by rfl) rfl rfl rfl (fun W => run_add (by simp only [IntKind.wrap_i64]; omega) W) ?_
    simp only [putT, List.set]
    refine wpV_nil (hLk _ (fun w31 Sw31 => ?_))
    clear hLk Lk
    simp only [List.take, List.drop]
    replace M := M.sees Sw31
    refine wpL_move (v := .int .i64 ((k + 1 : Nat) : Int)) (by rfl) (by rfl) (by rfl) ?_
    simp only [putT, List.set]
    refine wpL_nil (no_panic ?_)
    refine Exists.intro _ ⟨?_, (k + 1), (fun q9 => (#[undef, undef, undef, .int .i64 ((k : Nat) : Int), .string (bs (qs.getD k [])), undef, undef, undef, undef, undef, undef, undef, undef, undef, undef, .bool true, .int .i64 ((k : Nat) : Int), .pointer (some ⟨g8, k, none⟩), .string (bs (qs.getD k [])), .slice (some ⟨g8, 0, none⟩) qs.length g8c, .int .i64 ((k : Nat) : Int), .string (bs (qs.getD k [])), .string (bs (qs.getD k [])), .int .i64 (((qs.getD k []).length : Nat) : Int), .int .i64 ((min ((qs.getD k []).length) 40 : Nat) : Int), .string (bs (cut (qs.getD k []) 40)), .pointer (some ⟨g8, k, none⟩), .int .i64 ((k + 1 : Nat) : Int)] : Array Value).getD q9 undef), rfl, rfl, M, (by omega)⟩
    omega
set_option maxHeartbeats 1000000 in
theorem few9_c0  {w : World}  :
    Calls Tryd.prog 46 #[.slice none 0 0] w fun e w' => ∃ v, e = .returned v ∧ MemRow w ((cutsS 50 40 []).length) (scells (cutsS 50 40 [])) v w' ∧ Below w.heap.size w w' := by
  go_enter Tryd.func46, Tryd.ntmps46
  have M := Mem.start w
  refine wp_seq_k (fun K1 hK1 => ?_)
  refine wp_region_seq ?_
  refine wpL_assign (v := (.slice none 0 0)) (by rfl) (by rfl) (by rfl) ?_
  simp only [putT, List.set]
  refine wpL_nil (no_panic ?_)
  refine hK1 _ _ ?_
  refine wp_seq_k (fun K3 hK3 => ?_)
  refine wp_region_seq ?_
  refine wpL_row0 (by rfl) (by rfl) Tryd.underlying48 info9 (fun g5 w6 Sw6 Hg5 Bg5 => ?_)
  replace M := ((M.sees Sw6).add (N := 0) (cs := scells []) (M.ge Hg5) (M.fresh Hg5) Bg5 rfl)
  clear Bg5
  simp only [putT, List.set]
  refine wpL_move (v := .slice none 0 0) (by rfl) (by rfl) (by rfl) ?_
  simp only [putT, List.set]
  refine wpL_move (v := .slice none 0 0) (by rfl) (by rfl) (by rfl) ?_
  simp only [putT, List.set]
  refine wpL_chunk 3 (by rfl) (fun Lk hLk => ?_)
  simp only [List.take, List.drop]
  refine wpV_lenA (n := 0) (by rfl) rfl rfl rfl Tryd.underlying48 ?_
  simp only [putT, List.set]
  refine wpV_min (n := 0) (m := 50) (by rfl) rfl rfl rfl ?_
  simp only [putT, List.set]
  refine wpV_val (v := .slice none 0 0) (by rfl) (by rfl) (fun W hW => ?_) ?_
  · (unfold RunsVal; kernel_rfl)
  simp only [putT, List.set]
  refine wpV_nil (hLk _ (fun w7 Sw7 => ?_))
  clear hLk Lk
  simp only [List.take, List.drop]
  replace M := M.sees Sw7
  refine wpL_appendN (by rfl) (by rfl) (by rfl) (by rfl) Tryd.underlying48 info9 (Nat.le_refl _) ?_
  simp only [putT, List.set]
  refine wpL_assign (v := .slice (some ⟨g5, 0, none⟩) 0 0) (by rfl) (by rfl) (by rfl) ?_
  simp only [putT, List.set]
  refine wpL_nil (no_panic ?_)
  refine hK3 _ _ ?_
  refine wp_seq_k (fun K8 hK8 => ?_)
  refine wp_seq_k (fun K9 hK9 => ?_)
  refine wp_region_seq ?_
  refine wpL_move (v := .slice (some ⟨g5, 0, none⟩) 0 0) (by rfl) (by rfl) (by rfl) ?_
  simp only [putT, List.set]
  refine wpL_chunk 1 (by rfl) (fun Lk hLk => ?_)
  simp only [List.take, List.drop]
  refine wpV_lenA (n := 0) (by rfl) rfl rfl rfl Tryd.underlying48 ?_
  simp only [putT, List.set]
  refine wpV_nil (hLk _ (fun w11 Sw11 => ?_))
  clear hLk Lk
  simp only [List.take, List.drop]
  replace M := M.sees Sw11
  refine wpL_move (v := .int .i64 0) (by rfl) (by rfl) (by rfl) ?_
  simp only [putT, List.set]
  refine wpL_nil (no_panic ?_)
  refine hK9 _ _ ?_
  refine wp_block ?_
  refine wp_loop_rounds 2 ?_
  rw [rounds_succ]
  refine wp_seq_k (fun K12 hK12 => ?_)
  refine wp_region_seq ?_
  refine wpL_chunk 1 (by rfl) (fun Lk hLk => ?_)
  simp only [List.take, List.drop]
  refine wpV_bin (v := .bool false) (by rfl) rfl rfl rfl (fun W => run_lss _ _ _ _ W) ?_
  simp only [putT, List.set]
  refine wpV_nil (hLk _ (fun w14 Sw14 => ?_))
  clear hLk Lk
  simp only [List.take, List.drop]
  replace M := M.sees Sw14
  refine wpL_nil (no_panic ?_)
  refine hK12 _ _ ?_
  refine wp_seq_k (fun K15 hK15 => ?_)
  refine wp_cond_false rfl ?_
  refine wp_exit ?_
  refine hK8 _ _ ?_
  refine wp_seq_k (fun K16 hK16 => ?_)
  refine wp_region_seq ?_
  refine wpL_move (v := .slice (some ⟨g5, 0, none⟩) 0 0) (by rfl) (by rfl) (by rfl) ?_
  simp only [putT, List.set]
  refine wpL_assign (v := .slice (some ⟨g5, 0, none⟩) 0 0) (by rfl) (by rfl) (by rfl) ?_
  simp only [putT, List.set]
  refine wpL_nil (no_panic ?_)
  refine hK16 _ _ ?_
  refine wp_ret ?_
  repeat (first | with_reducible refine then_ret ?_ | with_reducible refine inblock_ret ?_)
  refine bodyPost_ret (v := .slice (some ⟨g5, 0, none⟩) 0 0) (res1 rfl (.tmp (by rfl))) rfl ?_
  have BE := M.below
  exact ⟨_, rfl, ⟨g5, 0, rfl, (Nat.le_refl _), M.pick [0] (by decide) rfl⟩, BE⟩
set_option maxHeartbeats 1000000 in
theorem few9_cE {a : Addr} {w : World}  :
    Calls Tryd.prog 46 #[.slice (some a) 0 0] w fun e w' => ∃ v, e = .returned v ∧ MemRow w ((cutsS 50 40 []).length) (scells (cutsS 50 40 [])) v w' ∧ Below w.heap.size w w' := by
  go_enter Tryd.func46, Tryd.ntmps46
  have M := Mem.start w
  refine wp_seq_k (fun K1 hK1 => ?_)
  refine wp_region_seq ?_
  refine wpL_assign (v := (.slice none 0 0)) (by rfl) (by rfl) (by rfl) ?_
  simp only [putT, List.set]
  refine wpL_nil (no_panic ?_)
  refine hK1 _ _ ?_
  refine wp_seq_k (fun K3 hK3 => ?_)
  refine wp_region_seq ?_
  refine wpL_row0 (by rfl) (by rfl) Tryd.underlying48 info9 (fun g5 w6 Sw6 Hg5 Bg5 => ?_)
  replace M := ((M.sees Sw6).add (N := 0) (cs := scells []) (M.ge Hg5) (M.fresh Hg5) Bg5 rfl)
  clear Bg5
  simp only [putT, List.set]
  refine wpL_move (v := .slice (some a) 0 0) (by rfl) (by rfl) (by rfl) ?_
  simp only [putT, List.set]
  refine wpL_move (v := .slice (some a) 0 0) (by rfl) (by rfl) (by rfl) ?_
  simp only [putT, List.set]
  refine wpL_chunk 3 (by rfl) (fun Lk hLk => ?_)
  simp only [List.take, List.drop]
  refine wpV_lenA (n := 0) (by rfl) rfl rfl rfl Tryd.underlying48 ?_
  simp only [putT, List.set]
  refine wpV_min (n := 0) (m := 50) (by rfl) rfl rfl rfl ?_
  simp only [putT, List.set]
  refine wpV_val (v := .slice (some a) 0 0) (by rfl) (by rfl) (fun W hW => ?_) ?_
  · (unfold RunsVal; kernel_rfl)
  simp only [putT, List.set]
  refine wpV_nil (hLk _ (fun w7 Sw7 => ?_))
  clear hLk Lk
  simp only [List.take, List.drop]
  replace M := M.sees Sw7
  refine wpL_appendE (by rfl) (by rfl) (by rfl) (by rfl) Tryd.underlying48 info9 (Nat.le_refl _) ?_
  simp only [putT, List.set]
  refine wpL_assign (v := .slice (some ⟨g5, 0, none⟩) 0 0) (by rfl) (by rfl) (by rfl) ?_
  simp only [putT, List.set]
  refine wpL_nil (no_panic ?_)
  refine hK3 _ _ ?_
  refine wp_seq_k (fun K8 hK8 => ?_)
  refine wp_seq_k (fun K9 hK9 => ?_)
  refine wp_region_seq ?_
  refine wpL_move (v := .slice (some ⟨g5, 0, none⟩) 0 0) (by rfl) (by rfl) (by rfl) ?_
  simp only [putT, List.set]
  refine wpL_chunk 1 (by rfl) (fun Lk hLk => ?_)
  simp only [List.take, List.drop]
  refine wpV_lenA (n := 0) (by rfl) rfl rfl rfl Tryd.underlying48 ?_
  simp only [putT, List.set]
  refine wpV_nil (hLk _ (fun w11 Sw11 => ?_))
  clear hLk Lk
  simp only [List.take, List.drop]
  replace M := M.sees Sw11
  refine wpL_move (v := .int .i64 0) (by rfl) (by rfl) (by rfl) ?_
  simp only [putT, List.set]
  refine wpL_nil (no_panic ?_)
  refine hK9 _ _ ?_
  refine wp_block ?_
  refine wp_loop_rounds 2 ?_
  rw [rounds_succ]
  refine wp_seq_k (fun K12 hK12 => ?_)
  refine wp_region_seq ?_
  refine wpL_chunk 1 (by rfl) (fun Lk hLk => ?_)
  simp only [List.take, List.drop]
  refine wpV_bin (v := .bool false) (by rfl) rfl rfl rfl (fun W => run_lss _ _ _ _ W) ?_
  simp only [putT, List.set]
  refine wpV_nil (hLk _ (fun w14 Sw14 => ?_))
  clear hLk Lk
  simp only [List.take, List.drop]
  replace M := M.sees Sw14
  refine wpL_nil (no_panic ?_)
  refine hK12 _ _ ?_
  refine wp_seq_k (fun K15 hK15 => ?_)
  refine wp_cond_false rfl ?_
  refine wp_exit ?_
  refine hK8 _ _ ?_
  refine wp_seq_k (fun K16 hK16 => ?_)
  refine wp_region_seq ?_
  refine wpL_move (v := .slice (some ⟨g5, 0, none⟩) 0 0) (by rfl) (by rfl) (by rfl) ?_
  simp only [putT, List.set]
  refine wpL_assign (v := .slice (some ⟨g5, 0, none⟩) 0 0) (by rfl) (by rfl) (by rfl) ?_
  simp only [putT, List.set]
  refine wpL_nil (no_panic ?_)
  refine hK16 _ _ ?_
  refine wp_ret ?_
  repeat (first | with_reducible refine then_ret ?_ | with_reducible refine inblock_ret ?_)
  refine bodyPost_ret (v := .slice (some ⟨g5, 0, none⟩) 0 0) (res1 rfl (.tmp (by rfl))) rfl ?_
  have BE := M.below
  exact ⟨_, rfl, ⟨g5, 0, rfl, (Nat.le_refl _), M.pick [0] (by decide) rfl⟩, BE⟩
theorem few9_c {v : Value} {ps : List (List UInt8)} {w : World} (hv : RowS w v ps) :
    Calls Tryd.prog 46 #[v] w fun e w' => ∃ v, e = .returned v ∧ MemRow w ((cutsS 50 40 ps).length) (scells (cutsS 50 40 ps)) v w' ∧ Below w.heap.size w w' := by
  rcases hv with ⟨rfl, rfl⟩ | ⟨a, rfl, rfl⟩ | ⟨g, o, n, c, rfl, h2, h3, h4, h5⟩
  · exact few9_c0
  · exact few9_cE
  · exact few9_c1 h2 h3 h4 h5
end Go.Proofs.Yb

namespace Go.Proofs.Yb
open Go Go.RowKit Go.Proofs.Num
attribute [local irreducible] wpV wpN wpList
theorem two_no1 {a b : List UInt8} (h : a.length ≠ 32) : all32 [a, b] = false := by
  unfold all32
  simp [h]
theorem two_no2 {a b : List UInt8} (h : b.length ≠ 32) : all32 [a, b] = false := by
  unfold all32
  simp [h]
theorem two_yes {a b : List UInt8} (h1 : ¬ a.length ≠ 32) (h2 : ¬ b.length ≠ 32) : all32 [a, b] = true := by
  unfold all32
  simp [Decidable.not_not.1 h1, Decidable.not_not.1 h2]
theorem two_yes' {a b : List UInt8} (h1 : a.length = 32) (h2 : b.length = 32) : all32 [a, b] = true := two_yes (fun e => e h1) (fun e => e h2)
end Go.Proofs.Yb

