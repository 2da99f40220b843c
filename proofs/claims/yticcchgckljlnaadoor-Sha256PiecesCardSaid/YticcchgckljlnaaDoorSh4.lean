import Derived.WalkKit
import Derived.WalkSpells
import Derived.Laws.Pointers
import Derived.RowKit3
import Derived.Below
import Derived.Outline
import Derived.LoopN
import Derived.Lib.Hide
import Derived.Handy
import Derived.Laws.Bits64b
import Derived.Test.YticcchgckljlnaaDoorSh3
set_option linter.unusedSimpArgs false
set_option linter.unusedVariables false
namespace Go.Proofs.Yb
open Go Go.RowKit Go.Proofs.Num
set_option maxHeartbeats 1000000 in
theorem new_c  {w : World}  :
    Calls Tryd.prog 22 #[] w fun e w' => e = .returned (.agg ([.int .u32 ((H0.a : Nat) : Int), .int .u32 ((H0.b : Nat) : Int), .int .u32 ((H0.c : Nat) : Int), .int .u32 ((H0.d : Nat) : Int), .int .u32 ((H0.e : Nat) : Int), .int .u32 ((H0.f : Nat) : Int), .int .u32 ((H0.g : Nat) : Int), .int .u32 ((H0.h : Nat) : Int)] ++ [.string (bs [])] ++ [.int .u64 ((0 : Nat) : Int)] : List Value).toArray) ∧ Below w.heap.size w w' := by
  go_enter Tryd.func22, Tryd.ntmps22
  have M := Mem.start w
  refine wp_seq_k (fun K1 hK1 => ?_)
  refine wp_region_seq ?_
  refine wpL_var (t := 29) (cs := [.int .u32 0, .int .u32 0, .int .u32 0, .int .u32 0, .int .u32 0, .int .u32 0, .int .u32 0, .int .u32 0, .string { data := #[] }, .int .u64 0]) (by rfl) (fun W => ?_) (fun g3 w4 Sw4 Hg3 Bg3 => ?_)
  · go_simp
  replace M := ((M.sees Sw4).addS (N := 10) (cs := [.int .u32 0, .int .u32 0, .int .u32 0, .int .u32 0, .int .u32 0, .int .u32 0, .int .u32 0, .int .u32 0, .string { data := #[] }, .int .u64 0]) (segs := [(0, [.int .u32 0, .int .u32 0, .int .u32 0, .int .u32 0, .int .u32 0, .int .u32 0, .int .u32 0, .int .u32 0]), (8, [.string { data := #[] }]), (9, [.int .u64 0])]) (M.ge Hg3) (M.fresh Hg3) Bg3 rfl ⟨rfl, rfl, rfl, trivial⟩)
  clear Bg3
  simp only [putT, List.set]
  refine wpL_nil (no_panic ?_)
  refine hK1 _ _ ?_
  refine wp_seq_k (fun K5 hK5 => ?_)
  refine wp_region_seq ?_
  refine wpL_chunk 2 (by rfl) (fun Lk hLk => ?_)
  simp only [List.take, List.drop]
  refine wpV_val (v := .agg ([.int .u32 1779033703, .int .u32 3144134277, .int .u32 1013904242, .int .u32 2773480762, .int .u32 1359893119, .int .u32 2600822924, .int .u32 528734635, .int .u32 1541459225]).toArray) (by rfl) (by rfl) (fun W hW => ?_) ?_
  · (unfold RunsVal; kernel_rfl)
  simp only [putT, List.set]
  refine wpV_val (v := .agg ([.int .u32 1779033703, .int .u32 3144134277, .int .u32 1013904242, .int .u32 2773480762, .int .u32 1359893119, .int .u32 2600822924, .int .u32 528734635, .int .u32 1541459225, .string { data := #[] }, .int .u64 0]).toArray) (by rfl) (by rfl) (fun W hW => ?_) ?_
  · (unfold RunsVal; kernel_rfl)
  simp only [putT, List.set]
  refine wpV_nil (hLk _ (fun w7 Sw7 => ?_))
  clear hLk Lk
  simp only [List.take, List.drop]
  replace M := M.sees Sw7
  refine wpL_store (g := g3) (off := 0) (n := 10) (cs := [.int .u32 1779033703, .int .u32 3144134277, .int .u32 1013904242, .int .u32 2773480762, .int .u32 1359893119, .int .u32 2600822924, .int .u32 528734635, .int .u32 1541459225, .string { data := #[] }, .int .u64 0]) (by rfl) (by rfl) (by rfl) (by rfl) (by rfl) (M.t 0 rfl) (by simp [flen]) info29 (by simp [fone, Value.oneCell']) (fun w8 P R T => ?_)
  replace M := M.put (segs' := [(0, [.int .u32 1779033703, .int .u32 3144134277, .int .u32 1013904242, .int .u32 2773480762, .int .u32 1359893119, .int .u32 2600822924, .int .u32 528734635, .int .u32 1541459225]), (8, [.string { data := #[] }]), (9, [.int .u64 0])]) 0 rfl P T (SegsOf.at R ⟨rfl, rfl, rfl, trivial⟩)
  simp only [List.set] at M
  refine wpL_nil (no_panic ?_)
  refine hK5 _ _ ?_
  refine wp_ret ?_
  repeat (first | with_reducible refine then_ret ?_ | with_reducible refine inblock_ret ?_)
  refine bodyPost_ret (v := .agg ([.int .u32 1779033703, .int .u32 3144134277, .int .u32 1013904242, .int .u32 2773480762, .int .u32 1359893119, .int .u32 2600822924, .int .u32 528734635, .int .u32 1541459225] ++ [.string { data := #[] }] ++ [.int .u64 0] : List Value).toArray) (res1 rfl (.cell (by rfl) (run_loadVar_mid _ _ _ _ ([.int .u32 1779033703, .int .u32 3144134277, .int .u32 1013904242, .int .u32 2773480762, .int .u32 1359893119, .int .u32 2600822924, .int .u32 528734635, .int .u32 1541459225] ++ [.string { data := #[] }] ++ [.int .u64 0]) _ (range_join (range_join (M.r 0 0 rfl rfl) (M.r 0 1 rfl rfl) (by simp [flen])) (M.r 0 2 rfl rfl) (by simp [flen])) Tryd.underlying29 rfl info29))) rfl ?_
  have BE := M.below
  exact ⟨rfl, BE⟩
set_option maxHeartbeats 2000000 in
theorem sum_c {ps : List (List UInt8)} {g0 cg0 : Nat} {w : World} (hq : ps.length ≤ 4611686018427387904) (hp : ∀ k, (ps.getD k []).length ≤ 9223372036854775744) (L0 : 0 < w.heap.size) (R0_0 : w.rangeAt 0 0 kcells) (hcg0 : ps.length ≤ cg0) (Lg0 : g0 < w.heap.size) (Rg0_0 : w.rangeAt g0 0 (scells ps)) :
    Calls Tryd.prog 20 #[.slice (some ⟨g0, 0, none⟩) ps.length cg0] w fun e w' => e = .returned (.string (bs (sha ps.flatten))) ∧ Below w.heap.size w w' := by
  go_enter Tryd.func20, Tryd.ntmps20
  have M := Mem.start w
  refine wp_seq_k (fun K1 hK1 => ?_)
  refine wp_region_seq ?_
  refine wpL_assign (v := .string (bs ([]))) (by rfl) (by rfl) (by rfl) ?_
  simp only [putT, List.set]
  refine wpL_nil (no_panic ?_)
  refine hK1 _ _ ?_
  refine wp_seq_k (fun K3 hK3 => ?_)
  refine wp_region_seq ?_
  refine wpL_chunk 2 (by rfl) (fun Lk hLk => ?_)
  simp only [List.take, List.drop]
  refine wpV_callf (v := .agg ([.int .u32 ((H0.a : Nat) : Int), .int .u32 ((H0.b : Nat) : Int), .int .u32 ((H0.c : Nat) : Int), .int .u32 ((H0.d : Nat) : Int), .int .u32 ((H0.e : Nat) : Int), .int .u32 ((H0.f : Nat) : Int), .int .u32 ((H0.g : Nat) : Int), .int .u32 ((H0.h : Nat) : Int)] ++ [.string (bs [])] ++ [.int .u64 ((0 : Nat) : Int)] : List Value).toArray) (args := #[]) (by rfl) rfl Tryd.func22 (by kernel_rfl) (by kernel_rfl) rfl (fun W hW => new_c) ?_
  simp only [putT, List.set]
  refine wpV_val (v := .agg ([.int .u32 ((H0.a : Nat) : Int), .int .u32 ((H0.b : Nat) : Int), .int .u32 ((H0.c : Nat) : Int), .int .u32 ((H0.d : Nat) : Int), .int .u32 ((H0.e : Nat) : Int), .int .u32 ((H0.f : Nat) : Int), .int .u32 ((H0.g : Nat) : Int), .int .u32 ((H0.h : Nat) : Int)] ++ [.string (bs [])] ++ [.int .u64 ((0 : Nat) : Int)] : List Value).toArray) (by rfl) (by rfl) (fun W hW => ?_) ?_
  · (unfold RunsVal; kernel_rfl)
  simp only [putT, List.set]
  refine wpV_nil (hLk _ (fun w5 Sw5 => ?_))
  clear hLk Lk
  simp only [List.take, List.drop]
  replace M := M.sees Sw5
  refine wpL_var (t := 90) (cs := [.int .u32 ((H0.a : Nat) : Int), .int .u32 ((H0.b : Nat) : Int), .int .u32 ((H0.c : Nat) : Int), .int .u32 ((H0.d : Nat) : Int), .int .u32 ((H0.e : Nat) : Int), .int .u32 ((H0.f : Nat) : Int), .int .u32 ((H0.g : Nat) : Int), .int .u32 ((H0.h : Nat) : Int)] ++ [.string (bs [])] ++ [.int .u64 ((0 : Nat) : Int)]) (by rfl) (fun W => ?_) (fun g6 w7 Sw7 Hg6 Bg6 => ?_)
  · (first | rfl | go_simp)
  replace M := ((M.sees Sw7).addS (N := 10) (cs := [.int .u32 ((H0.a : Nat) : Int), .int .u32 ((H0.b : Nat) : Int), .int .u32 ((H0.c : Nat) : Int), .int .u32 ((H0.d : Nat) : Int), .int .u32 ((H0.e : Nat) : Int), .int .u32 ((H0.f : Nat) : Int), .int .u32 ((H0.g : Nat) : Int), .int .u32 ((H0.h : Nat) : Int)] ++ [.string (bs [])] ++ [.int .u64 ((0 : Nat) : Int)]) (segs := [(0, [.int .u32 ((H0.a : Nat) : Int), .int .u32 ((H0.b : Nat) : Int), .int .u32 ((H0.c : Nat) : Int), .int .u32 ((H0.d : Nat) : Int), .int .u32 ((H0.e : Nat) : Int), .int .u32 ((H0.f : Nat) : Int), .int .u32 ((H0.g : Nat) : Int), .int .u32 ((H0.h : Nat) : Int)]), (8, [.string (bs [])]), (9, [.int .u64 ((0 : Nat) : Int)])]) (M.ge Hg6) (M.fresh Hg6) Bg6 (by simp [flen]) ⟨rfl, rfl, rfl, trivial⟩)
  clear Bg6
  simp only [putT, List.set]
  refine wpL_assign (v := .pointer (some ⟨g6, 0, none⟩)) (by rfl) (by rfl) (by rfl) ?_
  simp only [putT, List.set]
  refine wpL_nil (no_panic ?_)
  refine hK3 _ _ ?_
  refine wp_seq_k (fun K8 hK8 => ?_)
  refine wp_seq_k (fun K9 hK9 => ?_)
  refine wp_region_seq ?_
  refine wpL_move (v := .slice (some ⟨g0, 0, none⟩) ps.length cg0) (by rfl) (by rfl) (by rfl) ?_
  simp only [putT, List.set]
  refine wpL_chunk 1 (by rfl) (fun Lk hLk => ?_)
  simp only [List.take, List.drop]
  refine wpV_lenA (n := ps.length) (by rfl) rfl rfl rfl Tryd.underlying48 ?_
  simp only [putT, List.set]
  refine wpV_nil (hLk _ (fun w11 Sw11 => ?_))
  clear hLk Lk
  simp only [List.take, List.drop]
  replace M := M.sees Sw11
  refine wpL_move (v := .int .i64 0) (by rfl) (by rfl) (by rfl) ?_
  simp only [putT, List.set]
  refine wpL_nil (no_panic ?_)
  refine hK9 _ _ ?_
  refine wp_block ?_
  replace M := M.read (segs' := [(0, [.int .u32 (((takeH H0 (ps.take 0).flatten).a : Nat) : Int), .int .u32 (((takeH H0 (ps.take 0).flatten).b : Nat) : Int), .int .u32 (((takeH H0 (ps.take 0).flatten).c : Nat) : Int), .int .u32 (((takeH H0 (ps.take 0).flatten).d : Nat) : Int), .int .u32 (((takeH H0 (ps.take 0).flatten).e : Nat) : Int), .int .u32 (((takeH H0 (ps.take 0).flatten).f : Nat) : Int), .int .u32 (((takeH H0 (ps.take 0).flatten).g : Nat) : Int), .int .u32 (((takeH H0 (ps.take 0).flatten).h : Nat) : Int)]), (8, [.string (bs (takeR (ps.take 0).flatten))]), (9, [.int .u64 ((((ps.take 0).flatten.length % 18446744073709551616) : Nat) : Int)])]) 0 rfl (segs3 (by rw [show (ps.take 0).flatten = [] from rfl, take_zero.1]; exact (M.r 0 0 rfl rfl)) (by rw [show (ps.take 0).flatten = [] from rfl, take_zero.2]; exact (M.r 0 1 rfl rfl)) (by rw [show (ps.take 0).flatten = [] from rfl]; exact (M.r 0 2 rfl rfl)))
  simp only [List.set] at M
  refine wp_loop_ghost (fun n9 a9 W9 => ∃ (k : Nat) (u12 : Nat → Value), n9 = ps.length - k ∧ a9 = { tmps := #[.slice (some ⟨g0, 0, none⟩) ps.length cg0, undef, .string (bs ([])), .pointer (some ⟨g6, 0, none⟩), undef, u12 5, .agg ([.int .u32 ((H0.a : Nat) : Int), .int .u32 ((H0.b : Nat) : Int), .int .u32 ((H0.c : Nat) : Int), .int .u32 ((H0.d : Nat) : Int), .int .u32 ((H0.e : Nat) : Int), .int .u32 ((H0.f : Nat) : Int), .int .u32 ((H0.g : Nat) : Int), .int .u32 ((H0.h : Nat) : Int)] ++ [.string (bs [])] ++ [.int .u64 ((0 : Nat) : Int)] : List Value).toArray, .agg ([.int .u32 ((H0.a : Nat) : Int), .int .u32 ((H0.b : Nat) : Int), .int .u32 ((H0.c : Nat) : Int), .int .u32 ((H0.d : Nat) : Int), .int .u32 ((H0.e : Nat) : Int), .int .u32 ((H0.f : Nat) : Int), .int .u32 ((H0.g : Nat) : Int), .int .u32 ((H0.h : Nat) : Int)] ++ [.string (bs [])] ++ [.int .u64 ((0 : Nat) : Int)] : List Value).toArray, .pointer (some ⟨g6, 0, none⟩), .slice (some ⟨g0, 0, none⟩) ps.length cg0, .int .i64 ((ps.length : Nat) : Int), .int .i64 ((k : Nat) : Int), u12 12, u12 13, u12 14, u12 15, u12 16, u12 17, u12 18, undef, undef], defers := [] } ∧ Mem [] w W9 [⟨g6, 10, [(0, [.int .u32 (((takeH H0 (ps.take k).flatten).a : Nat) : Int), .int .u32 (((takeH H0 (ps.take k).flatten).b : Nat) : Int), .int .u32 (((takeH H0 (ps.take k).flatten).c : Nat) : Int), .int .u32 (((takeH H0 (ps.take k).flatten).d : Nat) : Int), .int .u32 (((takeH H0 (ps.take k).flatten).e : Nat) : Int), .int .u32 (((takeH H0 (ps.take k).flatten).f : Nat) : Int), .int .u32 (((takeH H0 (ps.take k).flatten).g : Nat) : Int), .int .u32 (((takeH H0 (ps.take k).flatten).h : Nat) : Int)]), (8, [.string (bs (takeR (ps.take k).flatten))]), (9, [.int .u64 ((((ps.take k).flatten.length % 18446744073709551616) : Nat) : Int)])]⟩] ∧ (k ≤ ps.length)) (ps.length - (0)) ?_ (fun n9 a9 W9 hI => ?_)
  · exact ⟨0, (fun q9 => (#[undef, undef, undef, undef, undef, undef, undef, undef, undef, undef, undef, undef, undef, undef, undef, undef, undef, undef, undef] : Array Value).getD q9 undef), rfl, rfl, M, (by omega)⟩
  clear M
  obtain ⟨k, u12, rfl, rfl, M, hk4⟩ := hI
  obtain ⟨w13, rfl⟩ : ∃ W8, W8 = W9 := ⟨_, rfl⟩
  refine wp_seq_k (fun K14 hK14 => ?_)
  refine wp_region_seq ?_
  refine wpL_chunk 1 (by rfl) (fun Lk hLk => ?_)
  simp only [List.take, List.drop]
  refine wpV_bin (v := .bool (decide (k < ps.length))) (by rfl) rfl rfl rfl (fun W => run_lssN k ps.length _ _ W) ?_
  simp only [putT, List.set]
  refine wpV_nil (hLk _ (fun w16 Sw16 => ?_))
  clear hLk Lk
  simp only [List.take, List.drop]
  replace M := M.sees Sw16
  refine wpL_nil (no_panic ?_)
  refine hK14 _ _ ?_
  refine wp_seq_k (fun K17 hK17 => ?_)
  cases hc18 : (decide (k < ps.length))
  · skip
    have ek : k = ps.length := by have := of_decide_eq_false hc18; omega
    subst ek
    refine wp_cond_false rfl ?_
    refine wp_exit ?_
    refine hK8 _ _ ?_
    refine wp_seq_k (fun K19 hK19 => ?_)
    refine wp_region_seq ?_
    refine wpL_move (v := .pointer (some ⟨g6, 0, none⟩)) (by rfl) (by rfl) (by rfl) ?_
    simp only [putT, List.set]
    refine wpL_callM (f := 71) (args := #[.pointer (some ⟨g6, 0, none⟩)]) (R := fun v9 W9 => v9 = .string (bs (endL (takeH H0 (ps.take ps.length).flatten) (takeR (ps.take ps.length).flatten) ((ps.take ps.length).flatten.length % 18446744073709551616))) ∧ Mem [g6] w16 W9 [⟨g6, 10, []⟩]) (by rfl) (by rfl) rfl Tryd.func71 (by kernel_rfl) (by kernel_rfl) (end_c (h := (takeH H0 (ps.take ps.length).flatten)) (b := (takeR (ps.take ps.length).flatten)) (n := ((ps.take ps.length).flatten.length % 18446744073709551616)) (takeH_ok _ _ _ (Nat.le_refl _) H0_ok) (takeR_len _) (mod_lt64 _) (M.ne0 0 rfl L0) (M.oldL L0) (M.oldR R0_0 L0) (M.one 0 rfl)) (fun v9 w21 h9 => ?_)
    obtain ⟨rfl, M9⟩ := h9
    replace M := M.callM1 0 rfl M9
    simp only [List.set] at M
    simp only [putT, List.set]
    refine wpL_assign (v := .string (bs (endL (takeH H0 (ps.take ps.length).flatten) (takeR (ps.take ps.length).flatten) ((ps.take ps.length).flatten.length % 18446744073709551616)))) (by rfl) (by rfl) (by rfl) ?_
    simp only [putT, List.set]
    refine wpL_nil (no_panic ?_)
    refine hK19 _ _ ?_
    refine wp_ret ?_
    repeat (first | with_reducible refine then_ret ?_ | with_reducible refine inblock_ret ?_)
    refine bodyPost_ret (v := .string (bs (endL (takeH H0 (ps.take ps.length).flatten) (takeR (ps.take ps.length).flatten) ((ps.take ps.length).flatten.length % 18446744073709551616)))) (res1 rfl (.tmp (by rfl))) rfl ?_
    have BE := M.below
    exact ⟨by rw [sha_flat], BE⟩
  · skip
    have hk : k < ps.length := of_decide_eq_true hc18
    refine wp_cond_true rfl ?_
    refine wp_skip ?_
    refine hK17 _ _ ?_
    refine wp_seq_k (fun K22 hK22 => ?_)
    refine wp_block ?_
    refine wp_seq_k (fun K23 hK23 => ?_)
    refine wp_region_seq ?_
    refine wpL_chunk 2 (by rfl) (fun Lk hLk => ?_)
    simp only [List.take, List.drop]
    refine wpV_idxs (n := k) (by rfl) rfl rfl rfl Tryd.underlying48 info9 (by omega) ?_
    simp only [Nat.zero_add]
    simp only [putT, List.set]
    refine wpV_load1 (v := .string (bs (ps.getD k []))) (by rfl) rfl rfl (zadd ((M.oldR Rg0_0 Lg0) _ _ (scells_get (ps := ps) (by omega)))) (M.oldL Lg0) Tryd.underlying9 rfl ?_
    simp only [putT, List.set]
    refine wpV_nil (hLk _ (fun w25 Sw25 => ?_))
    clear hLk Lk
    simp only [List.take, List.drop]
    replace M := M.sees Sw25
    refine wpL_assign (v := .string (bs (ps.getD k []))) (by rfl) (by rfl) (by rfl) ?_
    simp only [putT, List.set]
    refine wpL_nil (no_panic ?_)
    refine hK23 _ _ ?_
    refine wp_region_seq ?_
    refine wpL_move (v := .pointer (some ⟨g6, 0, none⟩)) (by rfl) (by rfl) (by rfl) ?_
    simp only [putT, List.set]
    refine wpL_move (v := .string (bs (ps.getD k []))) (by rfl) (by rfl) (by rfl) ?_
    simp only [putT, List.set]
    refine wpL_callM (f := 70) (args := #[.pointer (some ⟨g6, 0, none⟩), .string (bs (ps.getD k []))]) (R := fun v9 W9 => v9 = .tuple #[] ∧ Mem [g6] w25 W9 [⟨g6, 10, [(0, [.int .u32 (((takeH (takeH H0 (ps.take k).flatten) ((takeR (ps.take k).flatten) ++ (ps.getD k []))).a : Nat) : Int), .int .u32 (((takeH (takeH H0 (ps.take k).flatten) ((takeR (ps.take k).flatten) ++ (ps.getD k []))).b : Nat) : Int), .int .u32 (((takeH (takeH H0 (ps.take k).flatten) ((takeR (ps.take k).flatten) ++ (ps.getD k []))).c : Nat) : Int), .int .u32 (((takeH (takeH H0 (ps.take k).flatten) ((takeR (ps.take k).flatten) ++ (ps.getD k []))).d : Nat) : Int), .int .u32 (((takeH (takeH H0 (ps.take k).flatten) ((takeR (ps.take k).flatten) ++ (ps.getD k []))).e : Nat) : Int), .int .u32 (((takeH (takeH H0 (ps.take k).flatten) ((takeR (ps.take k).flatten) ++ (ps.getD k []))).f : Nat) : Int), .int .u32 (((takeH (takeH H0 (ps.take k).flatten) ((takeR (ps.take k).flatten) ++ (ps.getD k []))).g : Nat) : Int), .int .u32 (((takeH (takeH H0 (ps.take k).flatten) ((takeR (ps.take k).flatten) ++ (ps.getD k []))).h : Nat) : Int)]), (8, [.string (bs (takeR ((takeR (ps.take k).flatten) ++ (ps.getD k []))))]), (9, [.int .u64 ((((((ps.take k).flatten.length % 18446744073709551616) + (ps.getD k []).length) % 18446744073709551616) : Nat) : Int)])]⟩]) (by rfl) (by rfl) rfl Tryd.func70 (by kernel_rfl) (by kernel_rfl) (take_c (h := (takeH H0 (ps.take k).flatten)) (b := (takeR (ps.take k).flatten)) (l := (ps.getD k [])) (n := ((ps.take k).flatten.length % 18446744073709551616)) (takeH_ok _ _ _ (Nat.le_refl _) H0_ok) (takeR_len _) (hp k) (M.ne0 0 rfl L0) (M.oldL L0) (M.oldR R0_0 L0) (M.one 0 rfl)) (fun v9 w27 h9 => ?_)
    obtain ⟨rfl, M9⟩ := h9
    replace M := M.callM1 0 rfl M9
    simp only [List.set] at M
    simp only [putT, List.set]
    refine wpL_nil (no_panic ?_)
    rw [← takeH_append, ← takeR_append, len_step, flat_step hk] at M
    refine hK22 _ _ ?_
    refine wp_region_seq ?_
    refine wpL_chunk 1 (by rfl) (fun Lk hLk => ?_)
    simp only [List.take, List.drop]
    refine wpV_bin (v := .int .i64 ((k + 1 : Nat) : Int)) (by rfl) rfl rfl rfl (fun W => run_add (by simp only [IntKind.wrap_i64]; omega) W) ?_
    simp only [putT, List.set]
    refine wpV_nil (hLk _ (fun w29 Sw29 => ?_))
    clear hLk Lk
    simp only [List.take, List.drop]
    replace M := M.sees Sw29
    refine wpL_move (v := .int .i64 ((k + 1 : Nat) : Int)) (by rfl) (by rfl) (by rfl) ?_
    simp only [putT, List.set]
    refine wpL_nil (no_panic ?_)
    refine Exists.intro _ ⟨?_, (k + 1), (fun q9 => (#[undef, undef, undef, undef, undef, .string (bs (ps.getD k [])), undef, undef, undef, undef, undef, undef, .bool true, .pointer (some ⟨g0, k, none⟩), .string (bs (ps.getD k [])), .pointer (some ⟨g6, 0, none⟩), .string (bs (ps.getD k [])), .tuple #[], .int .i64 ((k + 1 : Nat) : Int)] : Array Value).getD q9 undef), rfl, rfl, M, (by omega)⟩
    omega
set_option maxHeartbeats 2000000 in
theorem sum0_c  {w : World} (L0 : 0 < w.heap.size) (R0_0 : w.rangeAt 0 0 kcells) :
    Calls Tryd.prog 20 #[.slice none 0 0] w fun e w' => e = .returned (.string (bs (sha []))) ∧ Below w.heap.size w w' := by
  go_enter Tryd.func20, Tryd.ntmps20
  have M := Mem.start w
  refine wp_seq_k (fun K1 hK1 => ?_)
  refine wp_region_seq ?_
  refine wpL_assign (v := .string (bs ([]))) (by rfl) (by rfl) (by rfl) ?_
  simp only [putT, List.set]
  refine wpL_nil (no_panic ?_)
  refine hK1 _ _ ?_
  refine wp_seq_k (fun K3 hK3 => ?_)
  refine wp_region_seq ?_
  refine wpL_chunk 2 (by rfl) (fun Lk hLk => ?_)
  simp only [List.take, List.drop]
  refine wpV_callf (v := .agg ([.int .u32 ((H0.a : Nat) : Int), .int .u32 ((H0.b : Nat) : Int), .int .u32 ((H0.c : Nat) : Int), .int .u32 ((H0.d : Nat) : Int), .int .u32 ((H0.e : Nat) : Int), .int .u32 ((H0.f : Nat) : Int), .int .u32 ((H0.g : Nat) : Int), .int .u32 ((H0.h : Nat) : Int)] ++ [.string (bs [])] ++ [.int .u64 ((0 : Nat) : Int)] : List Value).toArray) (args := #[]) (by rfl) rfl Tryd.func22 (by kernel_rfl) (by kernel_rfl) rfl (fun W hW => new_c) ?_
  simp only [putT, List.set]
  refine wpV_val (v := .agg ([.int .u32 ((H0.a : Nat) : Int), .int .u32 ((H0.b : Nat) : Int), .int .u32 ((H0.c : Nat) : Int), .int .u32 ((H0.d : Nat) : Int), .int .u32 ((H0.e : Nat) : Int), .int .u32 ((H0.f : Nat) : Int), .int .u32 ((H0.g : Nat) : Int), .int .u32 ((H0.h : Nat) : Int)] ++ [.string (bs [])] ++ [.int .u64 ((0 : Nat) : Int)] : List Value).toArray) (by rfl) (by rfl) (fun W hW => ?_) ?_
  · (unfold RunsVal; kernel_rfl)
  simp only [putT, List.set]
  refine wpV_nil (hLk _ (fun w5 Sw5 => ?_))
  clear hLk Lk
  simp only [List.take, List.drop]
  replace M := M.sees Sw5
  refine wpL_var (t := 90) (cs := [.int .u32 ((H0.a : Nat) : Int), .int .u32 ((H0.b : Nat) : Int), .int .u32 ((H0.c : Nat) : Int), .int .u32 ((H0.d : Nat) : Int), .int .u32 ((H0.e : Nat) : Int), .int .u32 ((H0.f : Nat) : Int), .int .u32 ((H0.g : Nat) : Int), .int .u32 ((H0.h : Nat) : Int)] ++ [.string (bs [])] ++ [.int .u64 ((0 : Nat) : Int)]) (by rfl) (fun W => ?_) (fun g6 w7 Sw7 Hg6 Bg6 => ?_)
  · (first | rfl | go_simp)
  replace M := ((M.sees Sw7).addS (N := 10) (cs := [.int .u32 ((H0.a : Nat) : Int), .int .u32 ((H0.b : Nat) : Int), .int .u32 ((H0.c : Nat) : Int), .int .u32 ((H0.d : Nat) : Int), .int .u32 ((H0.e : Nat) : Int), .int .u32 ((H0.f : Nat) : Int), .int .u32 ((H0.g : Nat) : Int), .int .u32 ((H0.h : Nat) : Int)] ++ [.string (bs [])] ++ [.int .u64 ((0 : Nat) : Int)]) (segs := [(0, [.int .u32 ((H0.a : Nat) : Int), .int .u32 ((H0.b : Nat) : Int), .int .u32 ((H0.c : Nat) : Int), .int .u32 ((H0.d : Nat) : Int), .int .u32 ((H0.e : Nat) : Int), .int .u32 ((H0.f : Nat) : Int), .int .u32 ((H0.g : Nat) : Int), .int .u32 ((H0.h : Nat) : Int)]), (8, [.string (bs [])]), (9, [.int .u64 ((0 : Nat) : Int)])]) (M.ge Hg6) (M.fresh Hg6) Bg6 (by simp [flen]) ⟨rfl, rfl, rfl, trivial⟩)
  clear Bg6
  simp only [putT, List.set]
  refine wpL_assign (v := .pointer (some ⟨g6, 0, none⟩)) (by rfl) (by rfl) (by rfl) ?_
  simp only [putT, List.set]
  refine wpL_nil (no_panic ?_)
  refine hK3 _ _ ?_
  refine wp_seq_k (fun K8 hK8 => ?_)
  refine wp_seq_k (fun K9 hK9 => ?_)
  refine wp_region_seq ?_
  refine wpL_move (v := .slice none 0 0) (by rfl) (by rfl) (by rfl) ?_
  simp only [putT, List.set]
  refine wpL_chunk 1 (by rfl) (fun Lk hLk => ?_)
  simp only [List.take, List.drop]
  refine wpV_lenA (n := 0) (by rfl) rfl rfl rfl Tryd.underlying48 ?_
  simp only [putT, List.set]
  refine wpV_nil (hLk _ (fun w11 Sw11 => ?_))
  clear hLk Lk
  simp only [List.take, List.drop]
  replace M := M.sees Sw11
  refine wpL_move (v := .int .i64 0) (by rfl) (by rfl) (by rfl) ?_
  simp only [putT, List.set]
  refine wpL_nil (no_panic ?_)
  refine hK9 _ _ ?_
  refine wp_block ?_
  refine wp_loop_rounds 2 ?_
  rw [rounds_succ]
  refine wp_seq_k (fun K12 hK12 => ?_)
  refine wp_region_seq ?_
  refine wpL_chunk 1 (by rfl) (fun Lk hLk => ?_)
  simp only [List.take, List.drop]
  refine wpV_bin (v := .bool false) (by rfl) rfl rfl rfl (fun W => run_lss _ _ _ _ W) ?_
  simp only [putT, List.set]
  refine wpV_nil (hLk _ (fun w14 Sw14 => ?_))
  clear hLk Lk
  simp only [List.take, List.drop]
  replace M := M.sees Sw14
  refine wpL_nil (no_panic ?_)
  refine hK12 _ _ ?_
  refine wp_seq_k (fun K15 hK15 => ?_)
  refine wp_cond_false rfl ?_
  refine wp_exit ?_
  refine hK8 _ _ ?_
  refine wp_seq_k (fun K16 hK16 => ?_)
  refine wp_region_seq ?_
  refine wpL_move (v := .pointer (some ⟨g6, 0, none⟩)) (by rfl) (by rfl) (by rfl) ?_
  simp only [putT, List.set]
  refine wpL_callM (f := 71) (args := #[.pointer (some ⟨g6, 0, none⟩)]) (R := fun v9 W9 => v9 = .string (bs (endL H0 ([]) 0)) ∧ Mem [g6] w14 W9 [⟨g6, 10, []⟩]) (by rfl) (by rfl) rfl Tryd.func71 (by kernel_rfl) (by kernel_rfl) (end_c (h := H0) (b := []) (n := 0) H0_ok (by decide) (by decide) (M.ne0 0 rfl L0) (M.oldL L0) (M.oldR R0_0 L0) (M.one 0 rfl)) (fun v9 w18 h9 => ?_)
  obtain ⟨rfl, M9⟩ := h9
  replace M := M.callM1 0 rfl M9
  simp only [List.set] at M
  simp only [putT, List.set]
  refine wpL_assign (v := .string (bs (endL H0 ([]) 0))) (by rfl) (by rfl) (by rfl) ?_
  simp only [putT, List.set]
  refine wpL_nil (no_panic ?_)
  refine hK16 _ _ ?_
  refine wp_ret ?_
  repeat (first | with_reducible refine then_ret ?_ | with_reducible refine inblock_ret ?_)
  refine bodyPost_ret (v := .string (bs (endL H0 ([]) 0))) (res1 rfl (.tmp (by rfl))) rfl ?_
  have BE := M.below
  exact ⟨by rw [show sha [] = endL H0 [] 0 by unfold sha; rw [take_zero.1, take_zero.2]; rfl], BE⟩
end Go.Proofs.Yb
