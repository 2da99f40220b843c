import Derived.WalkKit
import Derived.WalkSpells
import Derived.Laws.Pointers
import Derived.RowKit3
import Derived.Below
import Derived.Outline
import Derived.LoopN
import Derived.Lib.Hide
import Derived.Handy
import Derived.Laws.Bits64b
import Derived.Test.YticcchgckljlnaaDoorRf3
import Derived.Test.YticcchgckljlnaaDoorEqS
import Derived.Test.YticcchgckljlnaaDoorRootW
import Derived.Test.YticcchgckljlnaaDoorSh11
set_option linter.unusedSimpArgs false
set_option linter.unusedVariables false
namespace Go.Proofs.Yb
open Go Go.RowKit Go.Proofs.Num
attribute [local irreducible] wpV wpN wpList
theorem eq_sumF (h u : S8) (b c : List UInt8) (n m : Nat) : FieldsEq Tryd.prog 2 ([.int .u32 ((h.a : Nat) : Int), .int .u32 ((h.b : Nat) : Int), .int .u32 ((h.c : Nat) : Int), .int .u32 ((h.d : Nat) : Int), .int .u32 ((h.e : Nat) : Int), .int .u32 ((h.f : Nat) : Int), .int .u32 ((h.g : Nat) : Int), .int .u32 ((h.h : Nat) : Int)] ++ [.string (bs b)] ++ [.int .u64 ((n : Nat) : Int)] : List Value).toArray ([.int .u32 ((u.a : Nat) : Int), .int .u32 ((u.b : Nat) : Int), .int .u32 ((u.c : Nat) : Int), .int .u32 ((u.d : Nat) : Int), .int .u32 ((u.e : Nat) : Int), .int .u32 ((u.f : Nat) : Int), .int .u32 ((u.g : Nat) : Int), .int .u32 ((u.h : Nat) : Int)] ++ [.string (bs c)] ++ [.int .u64 ((m : Nat) : Int)] : List Value).toArray [(false, 26, 0), (false, 9, 8), (false, 27, 9)] [decide (h = u), decide (b = c), decide (n = m)] := by
 refine ⟨rfl, ⟨.agg ([.int .u32 ((h.a : Nat) : Int), .int .u32 ((h.b : Nat) : Int), .int .u32 ((h.c : Nat) : Int), .int .u32 ((h.d : Nat) : Int), .int .u32 ((h.e : Nat) : Int), .int .u32 ((h.f : Nat) : Int), .int .u32 ((h.g : Nat) : Int), .int .u32 ((h.h : Nat) : Int)] : List Value).toArray, .agg ([.int .u32 ((u.a : Nat) : Int), .int .u32 ((u.b : Nat) : Int), .int .u32 ((u.c : Nat) : Int), .int .u32 ((u.d : Nat) : Int), .int .u32 ((u.e : Nat) : Int), .int .u32 ((u.f : Nat) : Int), .int .u32 ((u.g : Nat) : Int), .int .u32 ((u.h : Nat) : Int)] : List Value).toArray, (fun W => run_part_row Tryd.underlying26 rfl info26 rfl W), (fun W => run_part_row Tryd.underlying26 rfl info26 rfl W), ?_⟩, rfl, ⟨_, _, (fun W => run_part_one Tryd.underlying9 rfl rfl W), (fun W => run_part_one Tryd.underlying9 rfl rfl W), ?_⟩, rfl, ⟨_, _, (fun W => run_part_one Tryd.underlying27 rfl rfl W), (fun W => run_part_one Tryd.underlying27 rfl rfl W), ?_⟩, trivial⟩
 ·
  exact (eq_arr Tryd.underlying26 Tryd.underlying25 info25 [((h.a : Nat) : Int), ((h.b : Nat) : Int), ((h.c : Nat) : Int), ((h.d : Nat) : Int), ((h.e : Nat) : Int), ((h.f : Nat) : Int), ((h.g : Nat) : Int), ((h.h : Nat) : Int)] [((u.a : Nat) : Int), ((u.b : Nat) : Int), ((u.c : Nat) : Int), ((u.d : Nat) : Int), ((u.e : Nat) : Int), ((u.f : Nat) : Int), ((u.g : Nat) : Int), ((u.h : Nat) : Int)] rfl rfl).bool (s8_dec _ _)
 ·
  exact (eq_str Tryd.underlying9 b c).up (by decide)
 ·
  exact (eq_int Tryd.underlying27 n m).up (by decide)
theorem eq_sum (h u : S8) (b c : List UInt8) (n m : Nat) : EqD Tryd.prog 3 29 (.agg ([.int .u32 ((h.a : Nat) : Int), .int .u32 ((h.b : Nat) : Int), .int .u32 ((h.c : Nat) : Int), .int .u32 ((h.d : Nat) : Int), .int .u32 ((h.e : Nat) : Int), .int .u32 ((h.f : Nat) : Int), .int .u32 ((h.g : Nat) : Int), .int .u32 ((h.h : Nat) : Int)] ++ [.string (bs b)] ++ [.int .u64 ((n : Nat) : Int)] : List Value).toArray) (.agg ([.int .u32 ((u.a : Nat) : Int), .int .u32 ((u.b : Nat) : Int), .int .u32 ((u.c : Nat) : Int), .int .u32 ((u.d : Nat) : Int), .int .u32 ((u.e : Nat) : Int), .int .u32 ((u.f : Nat) : Int), .int .u32 ((u.g : Nat) : Int), .int .u32 ((u.h : Nat) : Int)] ++ [.string (bs c)] ++ [.int .u64 ((m : Nat) : Int)] : List Value).toArray) (decide (h = u) && (decide (b = c) && decide (n = m))) :=
 (eq_struct (k := 2) (fs := [(false, 26, 0), (false, 9, 8), (false, 27, 9)]) (bs := [decide (h = u), decide (b = c), decide (n = m)]) Tryd.underlying29 (by kernel_rfl) (by rfl) (eq_sumF h u b c n m)).bool (by simp only [List.all_cons, List.all_nil, id, Bool.and_true])
theorem eq_sum_same (h : S8) (b : List UInt8) (n : Nat) : EqD Tryd.prog 3 29 (.agg ([.int .u32 ((h.a : Nat) : Int), .int .u32 ((h.b : Nat) : Int), .int .u32 ((h.c : Nat) : Int), .int .u32 ((h.d : Nat) : Int), .int .u32 ((h.e : Nat) : Int), .int .u32 ((h.f : Nat) : Int), .int .u32 ((h.g : Nat) : Int), .int .u32 ((h.h : Nat) : Int)] ++ [.string (bs b)] ++ [.int .u64 ((n : Nat) : Int)] : List Value).toArray) (.agg ([.int .u32 ((h.a : Nat) : Int), .int .u32 ((h.b : Nat) : Int), .int .u32 ((h.c : Nat) : Int), .int .u32 ((h.d : Nat) : Int), .int .u32 ((h.e : Nat) : Int), .int .u32 ((h.f : Nat) : Int), .int .u32 ((h.g : Nat) : Int), .int .u32 ((h.h : Nat) : Int)] ++ [.string (bs b)] ++ [.int .u64 ((n : Nat) : Int)] : List Value).toArray) true := (eq_sum h h b b n n).bool (by simp)
end Go.Proofs.Yb

namespace Go.Proofs.Yb
open Go Go.RowKit Go.Proofs.Num
attribute [local irreducible] wpV wpN wpList
theorem flat1 (a : List UInt8) : [a].flatten = a := by simp
theorem getD_le1 {a : List UInt8} {B : Nat} (ha : a.length ≤ B) (k : Nat) : (([a] : List (List UInt8)).getD k []).length ≤ B := by
 match k with
 | 0 => exact ha
 | k + 1 => exact Nat.zero_le _
set_option maxHeartbeats 1000000 in
theorem alive02_c  {w : World} (L0 : 0 < w.heap.size) (R0_0 : w.rangeAt 0 0 kcells) :
  Calls Tryd.prog 19 #[] w fun e w' => e = .returned (.bool true) ∧ Below w.heap.size w w' := by
 go_enter Tryd.func19, Tryd.ntmps19
 have M := Mem.start w
 refine wp_seq_k (fun K1 hK1 => ?_)
 refine wp_region_seq ?_
 refine wpL_assign (v := .bool false) (by rfl) (by rfl) (by rfl) ?_
 simp only [putT, List.set]
 refine wpL_nil (no_panic ?_)
 refine hK1 _ _ ?_
 refine wp_seq_k (fun K3 hK3 => ?_)
 refine wp_region_seq ?_
 refine wpL_rowN (vs := [.string (bs ([97, 98, 99]))]) (z := .string { data := #[] }) (bytes := 16) (by rfl) (by rfl) Tryd.underlying48 (by kernel_rfl) (by decide) (by kernel_rfl) (fun g5 w6 Sw6 Hg5 Bg5 => ?_)
 replace M := ((M.sees Sw6).add (N := 1) (cs := [.string (bs ([97, 98, 99]))]) (M.ge Hg5) (M.fresh Hg5) Bg5 rfl)
 clear Bg5
 simp only [putT, List.set]
 refine wpL_chunk 1 (by rfl) (fun Lk hLk => ?_)
 simp only [List.take, List.drop]
 refine wpV_callf (v := .string (bs (sha ([97, 98, 99])))) (args := #[.slice (some ⟨g5, 0, none⟩) 1 1]) (by rfl) rfl Tryd.func20 (by kernel_rfl) (by kernel_rfl) rfl (fun W hW => (by have h := sum_c (ps := [[97, 98, 99]]) (w := W) (by simp) (getD_le1 (by decide)) ((M.sees hW).oldL L0) ((M.sees hW).oldR R0_0 L0) (Nat.le_refl _) ((M.sees hW).lt 0 rfl) ((M.sees hW).r 0 0 rfl rfl); rw [flat1] at h; exact h)) ?_
 simp only [putT, List.set]
 refine wpV_nil (hLk _ (fun w7 Sw7 => ?_))
 clear hLk Lk
 simp only [List.take, List.drop]
 replace M := M.sees Sw7
 refine wpL_assign (v := .string (bs (sha ([97, 98, 99])))) (by rfl) (by rfl) (by rfl) ?_
 simp only [putT, List.set]
 refine wpL_nil (no_panic ?_)
 refine hK3 _ _ ?_
 refine wp_seq_k (fun K8 hK8 => ?_)
 refine wp_region_seq ?_
 refine wpL_move (v := .string (bs (sha ([97, 98, 99])))) (by rfl) (by rfl) (by rfl) ?_
 simp only [putT, List.set]
 refine wpL_chunk 7 (by rfl) (fun Lk hLk => ?_)
 simp only [List.take, List.drop]
 refine wpV_lenS (by rfl) rfl rfl rfl Tryd.underlying9 ?_
 simp only [putT, List.set]
 refine wpV_bin (v := .bool true) (by rfl) rfl rfl rfl (fun W => (run_eqlN ((sha ([97, 98, 99])).length) 32 _ _ W).trans (by rw [(decide_eq_true (sha_len _))])) ?_
 simp only [putT, List.set]
 refine wpV_move (v := .bool true) (by rfl) rfl rfl ?_
 simp only [putT, List.set]
 refine wpV_move (v := .string (bs (sha ([97, 98, 99])))) (by rfl) rfl rfl ?_
 simp only [putT, List.set]
 refine wpV_takeS (l := sha ([97, 98, 99])) (hi := 4) (by rfl) rfl rfl rfl Tryd.underlying9 (by rw [sha_len]; decide) ?_
 simp only [putT, List.set]
 refine wpV_binS (v := .bool true) (by rfl) rfl rfl rfl (fun W => (run_eql_bs _ _ _ W).trans (by rw [(decide_eq_true abc_sum)])) ?_
 simp only [putT, List.set]
 refine wpV_pick (v := .bool true) (by rfl) rfl rfl rfl ?_
 simp only [putT, List.set]
 refine wpV_nil (hLk _ (fun w10 Sw10 => ?_))
 clear hLk Lk
 simp only [List.take, List.drop]
 replace M := M.sees Sw10
 refine wpL_assign (v := .bool true) (by rfl) (by rfl) (by rfl) ?_
 simp only [putT, List.set]
 refine wpL_nil (no_panic ?_)
 refine hK8 _ _ ?_
 refine wp_ret ?_
 repeat (first | with_reducible refine then_ret ?_ | with_reducible refine inblock_ret ?_)
 refine bodyPost_ret (v := .bool true) (res1 rfl (.tmp (by rfl))) rfl ?_
 have BE := M.below
 exact ⟨rfl, BE⟩
end Go.Proofs.Yb

namespace Go.Proofs.Yb
open Go Go.RowKit Go.Proofs.Num
attribute [local irreducible] wpV wpN wpList
set_option maxHeartbeats 2000000 in
theorem uroots_c  {w : World}  :
  Calls Tryd.prog 26 #[] w fun e w' => ∃ v, e = .returned v ∧ MemRow w 64 (ucells ((pRow 310).map (fun p => rootL p 3))) v w' ∧ Below w.heap.size w w' := by
 obtain ⟨P, hP⟩ : ∃ P, P = pRow 310 := ⟨_, rfl⟩
 have hPl : P.length = 64 := by rw [hP, primes64]; rfl
 go_enter Tryd.func26, Tryd.ntmps26
 have M := Mem.start w
 refine wp_seq_k (fun K1 hK1 => ?_)
 refine wp_region_seq ?_
 refine wpL_assign (v := (.slice none 0 0)) (by rfl) (by rfl) (by rfl) ?_
 simp only [putT, List.set]
 refine wpL_nil (no_panic ?_)
 refine hK1 _ _ ?_
 refine wp_seq_k (fun K3 hK3 => ?_)
 refine wp_region_seq ?_
 refine wpL_row0 (by rfl) (by rfl) Tryd.underlying32 info25 (fun g5 w6 Sw6 Hg5 Bg5 => ?_)
 replace M := ((M.sees Sw6).add (N := 0) (cs := ucells []) (M.ge Hg5) (M.fresh Hg5) Bg5 rfl)
 clear Bg5
 simp only [putT, List.set]
 refine wpL_assign (v := .slice (some ⟨g5, 0, none⟩) 0 0) (by rfl) (by rfl) (by rfl) ?_
 simp only [putT, List.set]
 refine wpL_nil (no_panic ?_)
 refine hK3 _ _ ?_
 refine wp_seq_k (fun K7 hK7 => ?_)
 refine wp_seq_k (fun K8 hK8 => ?_)
 refine wp_region_seq ?_
 refine wpL_callE (f := 72) (args := #[.int .i64 64]) (R := fun v9 W9 => ∃ g11 g11c, v9 = .slice (some ⟨g11, 0, none⟩) 64 g11c ∧ 64 ≤ g11c ∧ Mem [] w6 W9 [⟨g11, g11c, [(0, qcells P)]⟩]) (by rfl) (by rfl) rfl Tryd.func72 (by kernel_rfl) (by kernel_rfl) ((by rw [hP]; exact primes64_c)) (fun v9 w10 hv9 Sw10 => ?_)
 obtain ⟨g11, g11c, rfl, Cg11, M9⟩ := hv9
 replace M := M.call1 M9
 clear Sw10
 simp only [putT, List.set]
 refine wpL_chunk 1 (by rfl) (fun Lk hLk => ?_)
 simp only [List.take, List.drop]
 refine wpV_lenA (n := 64) (by rfl) rfl rfl rfl Tryd.underlying93 ?_
 simp only [putT, List.set]
 refine wpV_nil (hLk _ (fun w12 Sw12 => ?_))
 clear hLk Lk
 simp only [List.take, List.drop]
 replace M := M.sees Sw12
 refine wpL_move (v := .int .i64 0) (by rfl) (by rfl) (by rfl) ?_
 simp only [putT, List.set]
 refine wpL_nil (no_panic ?_)
 refine hK8 _ _ ?_
 refine wp_block ?_
 refine wp_loop_ghost (fun n9 a9 W9 => ∃ (k : Nat) (o : Nat) (oc : Nat) (u13 : Nat → Value), n9 = 2 * (64 - k) ∧ a9 = { tmps := #[(.slice none 0 0), .slice (some ⟨o, 0, none⟩) k oc, undef, u13 3, .slice (some ⟨g5, 0, none⟩) 0 0, .slice (some ⟨g11, 0, none⟩) 64 g11c, .int .i64 64, .int .i64 ((k : Nat) : Int), u13 8, u13 9, u13 10, u13 11, u13 12, u13 13, u13 14, u13 15, u13 16, undef], defers := [] } ∧ Mem [] w W9 [⟨g11, g11c, [(0, qcells P)]⟩, ⟨o, oc, [(0, ucells ((P.map (fun p => rootL p 3)).take k))]⟩] ∧ k ≤ oc ∧ (k ≤ 64)) (2 * (64 - (0))) ?_ (fun n9 a9 W9 hI => ?_)
 ·
  exact ⟨0, g5, 0, (fun q9 => (#[undef, undef, undef, undef, undef, undef, undef, undef, undef, undef, undef, undef, undef, undef, undef, undef, undef] : Array Value).getD q9 undef), rfl, rfl, M, (Nat.le_refl _), (Nat.zero_le _)⟩
 clear M
 obtain ⟨k, o, oc, u13, rfl, rfl, M, Co, hk4⟩ := hI
 obtain ⟨w14, rfl⟩ : ∃ W8, W8 = W9 := ⟨_, rfl⟩
 refine wp_seq_k (fun K15 hK15 => ?_)
 refine wp_region_seq ?_
 refine wpL_chunk 1 (by rfl) (fun Lk hLk => ?_)
 simp only [List.take, List.drop]
 refine wpV_bin (v := .bool (decide (k < 64))) (by rfl) rfl rfl rfl (fun W => run_lssN k 64 _ _ W) ?_
 simp only [putT, List.set]
 refine wpV_nil (hLk _ (fun w17 Sw17 => ?_))
 clear hLk Lk
 simp only [List.take, List.drop]
 replace M := M.sees Sw17
 refine wpL_nil (no_panic ?_)
 refine hK15 _ _ ?_
 refine wp_seq_k (fun K18 hK18 => ?_)
 cases hc19 : (decide (k < 64))
 ·
  have ek : k = 64 := by have := of_decide_eq_false hc19; omega
  subst ek
  refine wp_cond_false rfl ?_
  refine wp_exit ?_
  refine hK7 _ _ ?_
  refine wp_seq_k (fun K20 hK20 => ?_)
  refine wp_region_seq ?_
  refine wpL_move (v := .slice (some ⟨o, 0, none⟩) 64 oc) (by rfl) (by rfl) (by rfl) ?_
  simp only [putT, List.set]
  refine wpL_assign (v := .slice (some ⟨o, 0, none⟩) 64 oc) (by rfl) (by rfl) (by rfl) ?_
  simp only [putT, List.set]
  refine wpL_nil (no_panic ?_)
  refine hK20 _ _ ?_
  refine wp_ret ?_
  repeat (first | with_reducible refine then_ret ?_ | with_reducible refine inblock_ret ?_)
  refine bodyPost_ret (v := .slice (some ⟨o, 0, none⟩) 64 oc) (res1 rfl (.tmp (by rfl))) rfl ?_
  have BE := M.below
  rw [List.take_of_length_le (by rw [List.length_map, hPl]; exact Nat.le_refl _), hP] at M
  exact ⟨_, rfl, ⟨o, oc, rfl, Co, M.pick [1] (by decide) rfl⟩, BE⟩
 ·
  have hk : k < 64 := of_decide_eq_true hc19
  refine wp_cond_true rfl ?_
  refine wp_skip ?_
  refine hK18 _ _ ?_
  refine wp_seq_k (fun K22 hK22 => ?_)
  refine wp_block ?_
  refine wp_seq_k (fun K23 hK23 => ?_)
  refine wp_region_seq ?_
  refine wpL_chunk 2 (by rfl) (fun Lk hLk => ?_)
  simp only [List.take, List.drop]
  refine wpV_idxs (n := k) (by rfl) rfl rfl rfl Tryd.underlying93 info27 (by omega) ?_
  simp only [Nat.zero_add]
  simp only [putT, List.set]
  refine wpV_load1 (v := .int .u64 ((P.getD k 0 : Nat) : Int)) (by rfl) rfl rfl (zadd ((M.r 0 0 rfl rfl) _ _ (qcells_get (l := P) (by rw [hPl]; exact hk)))) (M.lt 0 rfl) Tryd.underlying27 rfl ?_
  simp only [putT, List.set]
  refine wpV_nil (hLk _ (fun w25 Sw25 => ?_))
  clear hLk Lk
  simp only [List.take, List.drop]
  replace M := M.sees Sw25
  refine wpL_assign (v := .int .u64 ((P.getD k 0 : Nat) : Int)) (by rfl) (by rfl) (by rfl) ?_
  simp only [putT, List.set]
  refine wpL_nil (no_panic ?_)
  refine hK23 _ _ ?_
  refine wp_region_seq ?_
  refine wpL_move (v := .slice (some ⟨o, 0, none⟩) k oc) (by rfl) (by rfl) (by rfl) ?_
  simp only [putT, List.set]
  refine wpL_move (v := .int .u64 ((P.getD k 0 : Nat) : Int)) (by rfl) (by rfl) (by rfl) ?_
  simp only [putT, List.set]
  refine wpL_chunk 1 (by rfl) (fun Lk hLk => ?_)
  simp only [List.take, List.drop]
  refine wpV_callf (v := .int .u32 ((rootL (P.getD k 0) 3 : Nat) : Int)) (args := #[.int .u64 ((P.getD k 0 : Nat) : Int), .int .i64 3]) (by rfl) rfl Tryd.func73 (by kernel_rfl) (by kernel_rfl) rfl (fun W hW => root3_c) ?_
  simp only [putT, List.set]
  refine wpV_nil (hLk _ (fun w27 Sw27 => ?_))
  clear hLk Lk
  simp only [List.take, List.drop]
  replace M := M.sees Sw27
  refine wpL_rowN (vs := [.int .u32 ((rootL (P.getD k 0) 3 : Nat) : Int)]) (z := .int .u32 0) (bytes := 4) (by rfl) (by rfl) Tryd.underlying32 (by kernel_rfl) (by decide) (by kernel_rfl) (fun g28 w29 Sw29 Hg28 Bg28 => ?_)
  replace M := ((M.sees Sw29).add (N := 1) (cs := [.int .u32 ((rootL (P.getD k 0) 3 : Nat) : Int)]) (M.ge Hg28) (M.fresh Hg28) Bg28 rfl)
  clear Bg28
  simp only [putT, List.set]
  refine wpL_append (n := k) (m := 1) (olds := ucells ((P.map (fun p => rootL p 3)).take k)) (news := [.int .u32 ((rootL (P.getD k 0) 3 : Nat) : Int)]) (z := .int .u32 0) (bytes := 4) (by rfl) (by rfl) (by rfl) (by rfl) Tryd.underlying32 (by kernel_rfl) rfl rfl (by rw [ucells_len, List.length_take, List.length_map, hPl]; omega) rfl (M.r 2 0 rfl rfl) (M.t 2 rfl) (M.lt 2 rfl) (M.r 0 0 rfl rfl) (by intro u hu; rw [List.mem_singleton.1 hu]; rfl) (by omega) (by simp only [maxLen]; omega) (fun g30 g30c w31 Sw31 Q Cg30 R T L => ?_)
  replace M := M.grow 2 rfl Sw31 Q R T L
  simp only [List.set] at M
  clear Q R T L
  rw [show ucells ((P.map (fun p => rootL p 3)).take k) ++ [.int .u32 ((rootL (P.getD k 0) 3 : Nat) : Int)] = ucells ((P.map (fun p => rootL p 3)).take (k + 1)) from by rw [ucells_snoc]; exact congrArg ucells (map_snoc (f := fun p => rootL p 3) (by rw [hPl]; exact hk))] at M
  simp only [putT, List.set]
  refine wpL_assign (v := .slice (some ⟨g30, 0, none⟩) (k + 1) g30c) (by rfl) (by rfl) (by rfl) ?_
  simp only [putT, List.set]
  refine wpL_nil (no_panic ?_)
  refine hK22 _ _ ?_
  refine wp_region_seq ?_
  refine wpL_chunk 1 (by rfl) (fun Lk hLk => ?_)
  simp only [List.take, List.drop]
  refine wpV_bin (v := .int .i64 ((k + 1 : Nat) : Int)) (by rfl) rfl rfl rfl (fun W => run_add (by simp only [IntKind.wrap_i64]; omega) W) ?_
  simp only [putT, List.set]
  refine wpV_nil (hLk _ (fun w33 Sw33 => ?_))
  clear hLk Lk
  simp only [List.take, List.drop]
  replace M := M.sees Sw33
  refine wpL_move (v := .int .i64 ((k + 1 : Nat) : Int)) (by rfl) (by rfl) (by rfl) ?_
  simp only [putT, List.set]
  refine wpL_nil (no_panic ?_)
  refine Exists.intro _ ⟨?_, (k + 1), g30, g30c, (fun q9 => (#[undef, undef, undef, .int .u64 ((P.getD k 0 : Nat) : Int), undef, undef, undef, undef, .bool true, .pointer (some ⟨g11, k, none⟩), .int .u64 ((P.getD k 0 : Nat) : Int), .slice (some ⟨o, 0, none⟩) k oc, .int .u64 ((P.getD k 0 : Nat) : Int), .int .u32 ((rootL (P.getD k 0) 3 : Nat) : Int), .slice (some ⟨g28, 0, none⟩) 1 1, .slice (some ⟨g30, 0, none⟩) (k + 1) g30c, .int .i64 ((k + 1 : Nat) : Int)] : Array Value).getD q9 undef), rfl, rfl, (M.pick [1, 2] (by decide) rfl), Cg30, (by omega)⟩
  omega
set_option maxHeartbeats 2000000 in
theorem ubegins_c  {w : World}  :
  Calls Tryd.prog 28 #[] w fun e w' => ∃ v, e = .returned v ∧ MemRow w 8 (ucells ((pRow 18).map (fun p => rootL p 2))) v w' ∧ Below w.heap.size w w' := by
 obtain ⟨P, hP⟩ : ∃ P, P = pRow 18 := ⟨_, rfl⟩
 have hPl : P.length = 8 := by rw [hP, primes8]; rfl
 go_enter Tryd.func28, Tryd.ntmps28
 have M := Mem.start w
 refine wp_seq_k (fun K1 hK1 => ?_)
 refine wp_region_seq ?_
 refine wpL_assign (v := (.slice none 0 0)) (by rfl) (by rfl) (by rfl) ?_
 simp only [putT, List.set]
 refine wpL_nil (no_panic ?_)
 refine hK1 _ _ ?_
 refine wp_seq_k (fun K3 hK3 => ?_)
 refine wp_region_seq ?_
 refine wpL_row0 (by rfl) (by rfl) Tryd.underlying32 info25 (fun g5 w6 Sw6 Hg5 Bg5 => ?_)
 replace M := ((M.sees Sw6).add (N := 0) (cs := ucells []) (M.ge Hg5) (M.fresh Hg5) Bg5 rfl)
 clear Bg5
 simp only [putT, List.set]
 refine wpL_assign (v := .slice (some ⟨g5, 0, none⟩) 0 0) (by rfl) (by rfl) (by rfl) ?_
 simp only [putT, List.set]
 refine wpL_nil (no_panic ?_)
 refine hK3 _ _ ?_
 refine wp_seq_k (fun K7 hK7 => ?_)
 refine wp_seq_k (fun K8 hK8 => ?_)
 refine wp_region_seq ?_
 refine wpL_callE (f := 72) (args := #[.int .i64 8]) (R := fun v9 W9 => ∃ g11 g11c, v9 = .slice (some ⟨g11, 0, none⟩) 8 g11c ∧ 8 ≤ g11c ∧ Mem [] w6 W9 [⟨g11, g11c, [(0, qcells P)]⟩]) (by rfl) (by rfl) rfl Tryd.func72 (by kernel_rfl) (by kernel_rfl) ((by rw [hP]; exact primes8_c)) (fun v9 w10 hv9 Sw10 => ?_)
 obtain ⟨g11, g11c, rfl, Cg11, M9⟩ := hv9
 replace M := M.call1 M9
 clear Sw10
 simp only [putT, List.set]
 refine wpL_chunk 1 (by rfl) (fun Lk hLk => ?_)
 simp only [List.take, List.drop]
 refine wpV_lenA (n := 8) (by rfl) rfl rfl rfl Tryd.underlying93 ?_
 simp only [putT, List.set]
 refine wpV_nil (hLk _ (fun w12 Sw12 => ?_))
 clear hLk Lk
 simp only [List.take, List.drop]
 replace M := M.sees Sw12
 refine wpL_move (v := .int .i64 0) (by rfl) (by rfl) (by rfl) ?_
 simp only [putT, List.set]
 refine wpL_nil (no_panic ?_)
 refine hK8 _ _ ?_
 refine wp_block ?_
 refine wp_loop_ghost (fun n9 a9 W9 => ∃ (k : Nat) (o : Nat) (oc : Nat) (u13 : Nat → Value), n9 = 2 * (8 - k) ∧ a9 = { tmps := #[(.slice none 0 0), .slice (some ⟨o, 0, none⟩) k oc, undef, u13 3, .slice (some ⟨g5, 0, none⟩) 0 0, .slice (some ⟨g11, 0, none⟩) 8 g11c, .int .i64 8, .int .i64 ((k : Nat) : Int), u13 8, u13 9, u13 10, u13 11, u13 12, u13 13, u13 14, u13 15, u13 16, undef], defers := [] } ∧ Mem [] w W9 [⟨g11, g11c, [(0, qcells P)]⟩, ⟨o, oc, [(0, ucells ((P.map (fun p => rootL p 2)).take k))]⟩] ∧ k ≤ oc ∧ (k ≤ 8)) (2 * (8 - (0))) ?_ (fun n9 a9 W9 hI => ?_)
 ·
  exact ⟨0, g5, 0, (fun q9 => (#[undef, undef, undef, undef, undef, undef, undef, undef, undef, undef, undef, undef, undef, undef, undef, undef, undef] : Array Value).getD q9 undef), rfl, rfl, M, (Nat.le_refl _), (Nat.zero_le _)⟩
 clear M
 obtain ⟨k, o, oc, u13, rfl, rfl, M, Co, hk4⟩ := hI
 obtain ⟨w14, rfl⟩ : ∃ W8, W8 = W9 := ⟨_, rfl⟩
 refine wp_seq_k (fun K15 hK15 => ?_)
 refine wp_region_seq ?_
 refine wpL_chunk 1 (by rfl) (fun Lk hLk => ?_)
 simp only [List.take, List.drop]
 refine wpV_bin (v := .bool (decide (k < 8))) (by rfl) rfl rfl rfl (fun W => run_lssN k 8 _ _ W) ?_
 simp only [putT, List.set]
 refine wpV_nil (hLk _ (fun w17 Sw17 => ?_))
 clear hLk Lk
 simp only [List.take, List.drop]
 replace M := M.sees Sw17
 refine wpL_nil (no_panic ?_)
 refine hK15 _ _ ?_
 refine wp_seq_k (fun K18 hK18 => ?_)
 cases hc19 : (decide (k < 8))
 ·
  have ek : k = 8 := by have := of_decide_eq_false hc19; omega
  subst ek
  refine wp_cond_false rfl ?_
  refine wp_exit ?_
  refine hK7 _ _ ?_
  refine wp_seq_k (fun K20 hK20 => ?_)
  refine wp_region_seq ?_
  refine wpL_move (v := .slice (some ⟨o, 0, none⟩) 8 oc) (by rfl) (by rfl) (by rfl) ?_
  simp only [putT, List.set]
  refine wpL_assign (v := .slice (some ⟨o, 0, none⟩) 8 oc) (by rfl) (by rfl) (by rfl) ?_
  simp only [putT, List.set]
  refine wpL_nil (no_panic ?_)
  refine hK20 _ _ ?_
  refine wp_ret ?_
  repeat (first | with_reducible refine then_ret ?_ | with_reducible refine inblock_ret ?_)
  refine bodyPost_ret (v := .slice (some ⟨o, 0, none⟩) 8 oc) (res1 rfl (.tmp (by rfl))) rfl ?_
  have BE := M.below
  rw [List.take_of_length_le (by rw [List.length_map, hPl]; exact Nat.le_refl _), hP] at M
  exact ⟨_, rfl, ⟨o, oc, rfl, Co, M.pick [1] (by decide) rfl⟩, BE⟩
 ·
  have hk : k < 8 := of_decide_eq_true hc19
  refine wp_cond_true rfl ?_
  refine wp_skip ?_
  refine hK18 _ _ ?_
  refine wp_seq_k (fun K22 hK22 => ?_)
  refine wp_block ?_
  refine wp_seq_k (fun K23 hK23 => ?_)
  refine wp_region_seq ?_
  refine wpL_chunk 2 (by rfl) (fun Lk hLk => ?_)
  simp only [List.take, List.drop]
  refine wpV_idxs (n := k) (by rfl) rfl rfl rfl Tryd.underlying93 info27 (by omega) ?_
  simp only [Nat.zero_add]
  simp only [putT, List.set]
  refine wpV_load1 (v := .int .u64 ((P.getD k 0 : Nat) : Int)) (by rfl) rfl rfl (zadd ((M.r 0 0 rfl rfl) _ _ (qcells_get (l := P) (by rw [hPl]; exact hk)))) (M.lt 0 rfl) Tryd.underlying27 rfl ?_
  simp only [putT, List.set]
  refine wpV_nil (hLk _ (fun w25 Sw25 => ?_))
  clear hLk Lk
  simp only [List.take, List.drop]
  replace M := M.sees Sw25
  refine wpL_assign (v := .int .u64 ((P.getD k 0 : Nat) : Int)) (by rfl) (by rfl) (by rfl) ?_
  simp only [putT, List.set]
  refine wpL_nil (no_panic ?_)
  refine hK23 _ _ ?_
  refine wp_region_seq ?_
  refine wpL_move (v := .slice (some ⟨o, 0, none⟩) k oc) (by rfl) (by rfl) (by rfl) ?_
  simp only [putT, List.set]
  refine wpL_move (v := .int .u64 ((P.getD k 0 : Nat) : Int)) (by rfl) (by rfl) (by rfl) ?_
  simp only [putT, List.set]
  refine wpL_chunk 1 (by rfl) (fun Lk hLk => ?_)
  simp only [List.take, List.drop]
  refine wpV_callf (v := .int .u32 ((rootL (P.getD k 0) 2 : Nat) : Int)) (args := #[.int .u64 ((P.getD k 0 : Nat) : Int), .int .i64 2]) (by rfl) rfl Tryd.func73 (by kernel_rfl) (by kernel_rfl) rfl (fun W hW => root2_c) ?_
  simp only [putT, List.set]
  refine wpV_nil (hLk _ (fun w27 Sw27 => ?_))
  clear hLk Lk
  simp only [List.take, List.drop]
  replace M := M.sees Sw27
  refine wpL_rowN (vs := [.int .u32 ((rootL (P.getD k 0) 2 : Nat) : Int)]) (z := .int .u32 0) (bytes := 4) (by rfl) (by rfl) Tryd.underlying32 (by kernel_rfl) (by decide) (by kernel_rfl) (fun g28 w29 Sw29 Hg28 Bg28 => ?_)
  replace M := ((M.sees Sw29).add (N := 1) (cs := [.int .u32 ((rootL (P.getD k 0) 2 : Nat) : Int)]) (M.ge Hg28) (M.fresh Hg28) Bg28 rfl)
  clear Bg28
  simp only [putT, List.set]
  refine wpL_append (n := k) (m := 1) (olds := ucells ((P.map (fun p => rootL p 2)).take k)) (news := [.int .u32 ((rootL (P.getD k 0) 2 : Nat) : Int)]) (z := .int .u32 0) (bytes := 4) (by rfl) (by rfl) (by rfl) (by rfl) Tryd.underlying32 (by kernel_rfl) rfl rfl (by rw [ucells_len, List.length_take, List.length_map, hPl]; omega) rfl (M.r 2 0 rfl rfl) (M.t 2 rfl) (M.lt 2 rfl) (M.r 0 0 rfl rfl) (by intro u hu; rw [List.mem_singleton.1 hu]; rfl) (by omega) (by simp only [maxLen]; omega) (fun g30 g30c w31 Sw31 Q Cg30 R T L => ?_)
  replace M := M.grow 2 rfl Sw31 Q R T L
  simp only [List.set] at M
  clear Q R T L
  rw [show ucells ((P.map (fun p => rootL p 2)).take k) ++ [.int .u32 ((rootL (P.getD k 0) 2 : Nat) : Int)] = ucells ((P.map (fun p => rootL p 2)).take (k + 1)) from by rw [ucells_snoc]; exact congrArg ucells (map_snoc (f := fun p => rootL p 2) (by rw [hPl]; exact hk))] at M
  simp only [putT, List.set]
  refine wpL_assign (v := .slice (some ⟨g30, 0, none⟩) (k + 1) g30c) (by rfl) (by rfl) (by rfl) ?_
  simp only [putT, List.set]
  refine wpL_nil (no_panic ?_)
  refine hK22 _ _ ?_
  refine wp_region_seq ?_
  refine wpL_chunk 1 (by rfl) (fun Lk hLk => ?_)
  simp only [List.take, List.drop]
  refine wpV_bin (v := .int .i64 ((k + 1 : Nat) : Int)) (by rfl) rfl rfl rfl (fun W => run_add (by simp only [IntKind.wrap_i64]; omega) W) ?_
  simp only [putT, List.set]
  refine wpV_nil (hLk _ (fun w33 Sw33 => ?_))
  clear hLk Lk
  simp only [List.take, List.drop]
  replace M := M.sees Sw33
  refine wpL_move (v := .int .i64 ((k + 1 : Nat) : Int)) (by rfl) (by rfl) (by rfl) ?_
  simp only [putT, List.set]
  refine wpL_nil (no_panic ?_)
  refine Exists.intro _ ⟨?_, (k + 1), g30, g30c, (fun q9 => (#[undef, undef, undef, .int .u64 ((P.getD k 0 : Nat) : Int), undef, undef, undef, undef, .bool true, .pointer (some ⟨g11, k, none⟩), .int .u64 ((P.getD k 0 : Nat) : Int), .slice (some ⟨o, 0, none⟩) k oc, .int .u64 ((P.getD k 0 : Nat) : Int), .int .u32 ((rootL (P.getD k 0) 2 : Nat) : Int), .slice (some ⟨g28, 0, none⟩) 1 1, .slice (some ⟨g30, 0, none⟩) (k + 1) g30c, .int .i64 ((k + 1 : Nat) : Int)] : Array Value).getD q9 undef), rfl, rfl, (M.pick [1, 2] (by decide) rfl), Cg30, (by omega)⟩
  omega
theorem uroots_k {w : World} : Calls Tryd.prog 26 #[] w fun e w' => ∃ v, e = .returned v ∧ MemRow w 64 (ucells keyL) v w' ∧ Below w.heap.size w w' := by
 have h9 := uroots_c (w := w)
 rw [roots_all] at h9
 exact h9
theorem ubegins_k {w : World} : Calls Tryd.prog 28 #[] w fun e w' => ∃ v, e = .returned v ∧ MemRow w 8 (ucells [H0.a, H0.b, H0.c, H0.d, H0.e, H0.f, H0.g, H0.h]) v w' ∧ Below w.heap.size w w' := by
 have h9 := ubegins_c (w := w)
 rw [begins_all] at h9
 exact h9
set_option maxHeartbeats 2000000 in
theorem same02_c {ax : Option Addr} {nx cx : Nat} {ay : Option Addr} {ny cy : Nat} {l : List Nat} {w : World} (hl : l.length ≤ 64) (Hx : RowA w ax nx cx (ucells l)) (Hy : RowA w ay ny cy (ucells l)) :
  Calls Tryd.prog 24 #[.slice ax nx cx, .slice ay ny cy] w fun e w' => e = .returned (.bool true) ∧ Below w.heap.size w w' := by
 obtain rfl : nx = l.length := by have := Hx.len; rwa [ucells_len] at this
 obtain rfl : ny = l.length := by have := Hy.len; rwa [ucells_len] at this
 go_enter Tryd.func24, Tryd.ntmps24
 have M := Mem.start w
 refine wp_seq_k (fun K1 hK1 => ?_)
 refine wp_region_seq ?_
 refine wpL_assign (v := .bool false) (by rfl) (by rfl) (by rfl) ?_
 simp only [putT, List.set]
 refine wpL_nil (no_panic ?_)
 refine hK1 _ _ ?_
 refine wp_seq_k (fun K3 hK3 => ?_)
 refine wp_seq_k (fun K4 hK4 => ?_)
 refine wp_region_seq ?_
 refine wpL_move (v := .slice ax l.length cx) (by rfl) (by rfl) (by rfl) ?_
 simp only [putT, List.set]
 refine wpL_chunk 4 (by rfl) (fun Lk hLk => ?_)
 simp only [List.take, List.drop]
 refine wpV_lenA (n := l.length) (by rfl) rfl rfl rfl Tryd.underlying32 ?_
 simp only [putT, List.set]
 refine wpV_move (v := .slice ay l.length cy) (by rfl) rfl rfl ?_
 simp only [putT, List.set]
 refine wpV_lenA (n := l.length) (by rfl) rfl rfl rfl Tryd.underlying32 ?_
 simp only [putT, List.set]
 refine wpV_bin (v := .bool (decide (l.length ≠ l.length))) (by rfl) rfl rfl rfl (fun W => run_neqN l.length l.length _ _ W) ?_
 simp only [putT, List.set]
 refine wpV_nil (hLk _ (fun w6 Sw6 => ?_))
 clear hLk Lk
 simp only [List.take, List.drop]
 replace M := M.sees Sw6
 refine wpL_nil (no_panic ?_)
 refine hK4 _ _ ?_
 cases hc7 : (decide (l.length ≠ l.length))
 ·
  refine wp_cond_false rfl ?_
  refine wp_skip ?_
  refine hK3 _ _ ?_
  refine wp_seq_k (fun K8 hK8 => ?_)
  refine wp_seq_k (fun K9 hK9 => ?_)
  refine wp_region_seq ?_
  refine wpL_move (v := .slice ax l.length cx) (by rfl) (by rfl) (by rfl) ?_
  simp only [putT, List.set]
  refine wpL_chunk 1 (by rfl) (fun Lk hLk => ?_)
  simp only [List.take, List.drop]
  refine wpV_lenA (n := l.length) (by rfl) rfl rfl rfl Tryd.underlying32 ?_
  simp only [putT, List.set]
  refine wpV_nil (hLk _ (fun w11 Sw11 => ?_))
  clear hLk Lk
  simp only [List.take, List.drop]
  replace M := M.sees Sw11
  refine wpL_move (v := .int .i64 0) (by rfl) (by rfl) (by rfl) ?_
  simp only [putT, List.set]
  refine wpL_nil (no_panic ?_)
  refine hK9 _ _ ?_
  refine wp_block ?_
  refine wp_loop_ghost (fun n9 a9 W9 => ∃ (k : Nat) (u12 : Nat → Value), n9 = 2 * (l.length - k) ∧ a9 = { tmps := #[.slice ax l.length cx, .slice ay l.length cy, undef, undef, u12 4, u12 5, .slice ax l.length cx, .int .i64 ((l.length : Nat) : Int), .slice ay l.length cy, .int .i64 ((l.length : Nat) : Int), .bool false, .slice ax l.length cx, .int .i64 ((l.length : Nat) : Int), .int .i64 ((k : Nat) : Int), u12 14, u12 15, u12 16, u12 17, u12 18, u12 19, u12 20, u12 21, u12 22, u12 23, u12 24, u12 25], defers := [] } ∧ Mem [] w W9 [] ∧ (k ≤ l.length)) (2 * (l.length - (0))) ?_ (fun n9 a9 W9 hI => ?_)
  ·
   exact ⟨0, (fun q9 => (#[undef, undef, undef, undef, .bool false, undef, undef, undef, undef, undef, undef, undef, undef, undef, undef, undef, undef, undef, undef, undef, undef, undef, undef, undef, undef, undef] : Array Value).getD q9 undef), rfl, rfl, M, (Nat.zero_le _)⟩
  clear M
  obtain ⟨k, u12, rfl, rfl, M, hk4⟩ := hI
  obtain ⟨w13, rfl⟩ : ∃ W8, W8 = W9 := ⟨_, rfl⟩
  refine wp_seq_k (fun K14 hK14 => ?_)
  refine wp_region_seq ?_
  refine wpL_chunk 1 (by rfl) (fun Lk hLk => ?_)
  simp only [List.take, List.drop]
  refine wpV_bin (v := .bool (decide (k < l.length))) (by rfl) rfl rfl rfl (fun W => run_lssN k l.length _ _ W) ?_
  simp only [putT, List.set]
  refine wpV_nil (hLk _ (fun w16 Sw16 => ?_))
  clear hLk Lk
  simp only [List.take, List.drop]
  replace M := M.sees Sw16
  refine wpL_nil (no_panic ?_)
  refine hK14 _ _ ?_
  refine wp_seq_k (fun K17 hK17 => ?_)
  cases hc18 : (decide (k < l.length))
  ·
   have ek : k = l.length := by have := of_decide_eq_false hc18; omega
   subst ek
   refine wp_cond_false rfl ?_
   refine wp_exit ?_
   refine hK8 _ _ ?_
   refine wp_seq_k (fun K19 hK19 => ?_)
   refine wp_region_seq ?_
   refine wpL_assign (v := .bool true) (by rfl) (by rfl) (by rfl) ?_
   simp only [putT, List.set]
   refine wpL_nil (no_panic ?_)
   refine hK19 _ _ ?_
   refine wp_ret ?_
   repeat (first | with_reducible refine then_ret ?_ | with_reducible refine inblock_ret ?_)
   refine bodyPost_ret (v := .bool true) (res1 rfl (.tmp (by rfl))) rfl ?_
   have BE := M.below
   exact ⟨rfl, BE⟩
  ·
   have hk : k < l.length := of_decide_eq_true hc18
   refine wp_cond_true rfl ?_
   refine wp_skip ?_
   refine hK17 _ _ ?_
   refine wp_seq_k (fun K21 hK21 => ?_)
   refine wp_block ?_
   refine wp_seq_k (fun K22 hK22 => ?_)
   refine wp_region_seq ?_
   refine wpL_move (v := .int .i64 ((k : Nat) : Int)) (by rfl) (by rfl) (by rfl) ?_
   simp only [putT, List.set]
   refine wpL_assign (v := .int .i64 ((k : Nat) : Int)) (by rfl) (by rfl) (by rfl) ?_
   simp only [putT, List.set]
   refine wpL_nil (no_panic ?_)
   refine hK22 _ _ ?_
   refine wp_seq_k (fun K24 hK24 => ?_)
   refine wp_region_grow 9 [] (by kernel_rfl) (by kernel_rfl) (by kernel_rfl) (fun Lk hLk => ?_)
   simp only [List.take, List.drop]
   refine wpV_move (v := .slice ax l.length cx) (by rfl) rfl rfl ?_
   simp only [putT, List.set]
   refine wpV_move (v := .int .i64 ((k : Nat) : Int)) (by rfl) rfl rfl ?_
   simp only [putT, List.set]
   refine wpV_idxA (i := k) (by rfl) rfl rfl rfl Tryd.underlying32 info25 (M.oldA Hx) (by omega) ?_
   simp only [putT, List.set]
   refine wpV_loadA (i := k) (v := .int .u32 (((l.getD k 0) : Nat) : Int)) (by rfl) rfl rfl (M.oldA Hx) (ucells_get (l := l) (by omega)) Tryd.underlying25 rfl ?_
   simp only [putT, List.set]
   refine wpV_move (v := .slice ay l.length cy) (by rfl) rfl rfl ?_
   simp only [putT, List.set]
   refine wpV_move (v := .int .i64 ((k : Nat) : Int)) (by rfl) rfl rfl ?_
   simp only [putT, List.set]
   refine wpV_idxA (i := k) (by rfl) rfl rfl rfl Tryd.underlying32 info25 (M.oldA Hy) (by omega) ?_
   simp only [putT, List.set]
   refine wpV_loadA (i := k) (v := .int .u32 (((l.getD k 0) : Nat) : Int)) (by rfl) rfl rfl (M.oldA Hy) (ucells_get (l := l) (by omega)) Tryd.underlying25 rfl ?_
   simp only [putT, List.set]
   refine wpV_bin (v := .bool (decide ((l.getD k 0) ≠ (l.getD k 0)))) (by rfl) rfl rfl rfl (fun W => run_neqN (l.getD k 0) (l.getD k 0) _ _ W) ?_
   simp only [putT, List.set]
   refine wpV_nil (hLk.out _ ?_)
   clear hLk Lk
   simp only [List.take, List.drop]
   iterate 9 refine wpN_skip (by rfl) ?_
   refine wpN_nil (fun w26 Sw26 hbs => ?_)
   clear hbs
   replace M := M.sees Sw26
   refine wpL_nil (no_panic ?_)
   refine hK24 _ _ ?_
   cases hc27 : (decide ((l.getD k 0) ≠ (l.getD k 0)))
   ·
    refine wp_cond_false rfl ?_
    refine wp_skip ?_
    refine hK21 _ _ ?_
    refine wp_region_seq ?_
    refine wpL_chunk 1 (by rfl) (fun Lk hLk => ?_)
    simp only [List.take, List.drop]
    refine wpV_bin (v := .int .i64 ((k + 1 : Nat) : Int)) (by rfl) rfl rfl rfl (fun W => run_add (by simp only [IntKind.wrap_i64]; omega) W) ?_
    simp only [putT, List.set]
    refine wpV_nil (hLk _ (fun w29 Sw29 => ?_))
    clear hLk Lk
    simp only [List.take, List.drop]
    replace M := M.sees Sw29
    refine wpL_move (v := .int .i64 ((k + 1 : Nat) : Int)) (by rfl) (by rfl) (by rfl) ?_
    simp only [putT, List.set]
    refine wpL_nil (no_panic ?_)
    refine Exists.intro _ ⟨?_, (k + 1), (fun q9 => (#[undef, undef, undef, undef, u12 4, .int .i64 ((k : Nat) : Int), undef, undef, undef, undef, undef, undef, undef, undef, .bool true, .int .i64 ((k : Nat) : Int), .slice ax l.length cx, .int .i64 ((k : Nat) : Int), .pointer (ax.map (·.add k)), .int .u32 (((l.getD k 0) : Nat) : Int), .slice ay l.length cy, .int .i64 ((k : Nat) : Int), .pointer (ay.map (·.add k)), .int .u32 (((l.getD k 0) : Nat) : Int), .bool false, .int .i64 ((k + 1 : Nat) : Int)] : Array Value).getD q9 undef), rfl, rfl, M, (by omega)⟩
    omega
   ·
    exact absurd rfl (of_decide_eq_true hc27)
 ·
  exact absurd rfl (of_decide_eq_true hc7)
end Go.Proofs.Yb

namespace Go.Proofs.Yb
open Go Go.RowKit Go.Proofs.Num
attribute [local irreducible] wpV wpN wpList
set_option maxHeartbeats 2000000 in
theorem sums_c {s : List UInt8} {w : World} (hs : s.length ≤ 9223372036854775807) (L0 : 0 < w.heap.size) (R0_0 : w.rangeAt 0 0 kcells) :
  Calls Tryd.prog 3 #[.string (bs s)] w fun e w' => e = .returned (.bool true) ∧ Below w.heap.size w w' := by
 go_enter Tryd.func3, Tryd.ntmps3
 have M := Mem.start w
 refine wp_seq_k (fun K1 hK1 => ?_)
 refine wp_region_seq ?_
 refine wpL_assign (v := .bool false) (by rfl) (by rfl) (by rfl) ?_
 simp only [putT, List.set]
 refine wpL_nil (no_panic ?_)
 refine hK1 _ _ ?_
 refine wp_seq_k (fun K3 hK3 => ?_)
 refine wp_region_seq ?_
 refine wpL_move (v := .string (bs s)) (by rfl) (by rfl) (by rfl) ?_
 simp only [putT, List.set]
 refine wpL_move (v := .string (bs s)) (by rfl) (by rfl) (by rfl) ?_
 simp only [putT, List.set]
 refine wpL_chunk 3 (by rfl) (fun Lk hLk => ?_)
 simp only [List.take, List.drop]
 refine wpV_lenS (by rfl) rfl rfl rfl Tryd.underlying9 ?_
 simp only [putT, List.set]
 refine wpV_min (n := s.length) (m := 400) (by rfl) rfl rfl rfl ?_
 simp only [putT, List.set]
 refine wpV_cut (l := s) (m := 400) (by rfl) rfl rfl rfl Tryd.underlying9 ?_
 simp only [putT, List.set]
 refine wpV_nil (hLk _ (fun w5 Sw5 => ?_))
 clear hLk Lk
 simp only [List.take, List.drop]
 replace M := M.sees Sw5
 refine wpL_assign (v := .string (bs (cut s 400))) (by rfl) (by rfl) (by rfl) ?_
 simp only [putT, List.set]
 refine wpL_nil (no_panic ?_)
 obtain ⟨c9, hc9⟩ : ∃ c9, cut s 400 = c9 := ⟨_, rfl⟩
 have hcl : c9.length ≤ 400 := hc9 ▸ cut_len s 400
 rw [hc9]
 refine hK3 _ _ ?_
 refine wp_seq_k (fun K6 hK6 => ?_)
 refine wp_region_seq ?_
 refine wpL_chunk 3 (by rfl) (fun Lk hLk => ?_)
 simp only [List.take, List.drop]
 refine wpV_callf (v := .bool true) (args := #[]) (by rfl) rfl Tryd.func19 (by kernel_rfl) (by kernel_rfl) rfl (fun W hW => alive02_c ((M.sees hW).oldL L0) ((M.sees hW).oldR R0_0 L0)) ?_
 simp only [putT, List.set]
 refine wpV_move (v := .bool true) (by rfl) rfl rfl ?_
 simp only [putT, List.set]
 refine wpV_move (v := .string (bs c9)) (by rfl) rfl rfl ?_
 simp only [putT, List.set]
 refine wpV_nil (hLk _ (fun w8 Sw8 => ?_))
 clear hLk Lk
 simp only [List.take, List.drop]
 replace M := M.sees Sw8
 refine wpL_guard (by rfl) ?_
 refine wpL_rowN (vs := [.string (bs c9)]) (z := .string { data := #[] }) (bytes := 16) (by rfl) (by rfl) Tryd.underlying48 (by kernel_rfl) (by decide) (by kernel_rfl) (fun g9 w10 Sw10 Hg9 Bg9 => ?_)
 replace M := ((M.sees Sw10).add (N := 1) (cs := [.string (bs c9)]) (M.ge Hg9) (M.fresh Hg9) Bg9 rfl)
 clear Bg9
 simp only [putT, List.set]
 refine wpL_chunk 10 (by rfl) (fun Lk hLk => ?_)
 simp only [List.take, List.drop]
 refine wpV_callf (v := .string (bs (sha (c9)))) (args := #[.slice (some ⟨g9, 0, none⟩) 1 1]) (by rfl) rfl Tryd.func20 (by kernel_rfl) (by kernel_rfl) rfl (fun W hW => (by have h := sum_c (ps := [c9]) (w := W) (by simp) (getD_le1 (by omega)) ((M.sees hW).oldL L0) ((M.sees hW).oldR R0_0 L0) (Nat.le_refl _) ((M.sees hW).lt 0 rfl) ((M.sees hW).r 0 0 rfl rfl); rw [flat1] at h; exact h)) ?_
 simp only [putT, List.set]
 refine wpV_move (v := .string (bs c9)) (by rfl) rfl rfl ?_
 simp only [putT, List.set]
 refine wpV_callf (v := .string (bs (sha c9))) (args := #[.string (bs c9)]) (by rfl) rfl Tryd.func21 (by kernel_rfl) (by kernel_rfl) rfl (fun W hW => rsum_c (l := c9) (by omega)) ?_
 simp only [putT, List.set]
 refine wpV_binS (v := .bool true) (by rfl) rfl rfl rfl (fun W => (run_eql_bs _ _ _ W).trans (by rw [(decide_eq_true rfl)])) ?_
 simp only [putT, List.set]
 refine wpV_pick (v := .bool true) (by rfl) rfl rfl rfl ?_
 simp only [putT, List.set]
 refine wpV_move (v := .bool true) (by rfl) rfl rfl ?_
 simp only [putT, List.set]
 refine wpV_callf (v := .agg ([.int .u32 ((H0.a : Nat) : Int), .int .u32 ((H0.b : Nat) : Int), .int .u32 ((H0.c : Nat) : Int), .int .u32 ((H0.d : Nat) : Int), .int .u32 ((H0.e : Nat) : Int), .int .u32 ((H0.f : Nat) : Int), .int .u32 ((H0.g : Nat) : Int), .int .u32 ((H0.h : Nat) : Int)] ++ [.string (bs [])] ++ [.int .u64 ((0 : Nat) : Int)] : List Value).toArray) (args := #[]) (by rfl) rfl Tryd.func22 (by kernel_rfl) (by kernel_rfl) rfl (fun W hW => new_c) ?_
 simp only [putT, List.set]
 refine wpV_callf (v := .agg ([.int .u32 ((H0.a : Nat) : Int), .int .u32 ((H0.b : Nat) : Int), .int .u32 ((H0.c : Nat) : Int), .int .u32 ((H0.d : Nat) : Int), .int .u32 ((H0.e : Nat) : Int), .int .u32 ((H0.f : Nat) : Int), .int .u32 ((H0.g : Nat) : Int), .int .u32 ((H0.h : Nat) : Int)] ++ [.string (bs [])] ++ [.int .u64 ((0 : Nat) : Int)] : List Value).toArray) (args := #[]) (by rfl) rfl Tryd.func23 (by kernel_rfl) (by kernel_rfl) rfl (fun W hW => rnew_c) ?_
 simp only [putT, List.set]
 refine wpV_eqlT (k := 3) (u := [Value.int .u32 ((H0.a : Nat) : Int), Value.int .u32 ((H0.b : Nat) : Int), Value.int .u32 ((H0.c : Nat) : Int), Value.int .u32 ((H0.d : Nat) : Int), Value.int .u32 ((H0.e : Nat) : Int), Value.int .u32 ((H0.f : Nat) : Int), Value.int .u32 ((H0.g : Nat) : Int), Value.int .u32 ((H0.h : Nat) : Int)] ++ [Value.string (bs [])] ++ [Value.int .u64 ((0 : Nat) : Int)]) (v := [Value.int .u32 ((H0.a : Nat) : Int), Value.int .u32 ((H0.b : Nat) : Int), Value.int .u32 ((H0.c : Nat) : Int), Value.int .u32 ((H0.d : Nat) : Int), Value.int .u32 ((H0.e : Nat) : Int), Value.int .u32 ((H0.f : Nat) : Int), Value.int .u32 ((H0.g : Nat) : Int), Value.int .u32 ((H0.h : Nat) : Int)] ++ [Value.string (bs [])] ++ [Value.int .u64 ((0 : Nat) : Int)]) (b := true) (by rfl) rfl rfl rfl (by kernel_rfl) (eq_sum_same _ _ _) (by decide) ?_
 simp only [putT, List.set]
 refine wpV_pick (v := .bool true) (by rfl) rfl rfl rfl ?_
 simp only [putT, List.set]
 refine wpV_nil (hLk _ (fun w11 Sw11 => ?_))
 clear hLk Lk
 simp only [List.take, List.drop]
 replace M := M.sees Sw11
 refine wpL_move (v := .bool true) (by rfl) (by rfl) (by rfl) ?_
 simp only [putT, List.set]
 refine wpL_guard (by rfl) ?_
 refine wpL_callE (f := 25) (args := #[]) (R := fun v9 W9 => ∃ g13 g13c, v9 = .slice (some ⟨g13, 0, none⟩) 64 g13c ∧ 64 ≤ g13c ∧ Mem [] w11 W9 [⟨g13, g13c, [(0, ucells keyL)]⟩]) (by rfl) (by rfl) rfl Tryd.func25 (by kernel_rfl) (by kernel_rfl) (keys_c) (fun v9 w12 hv9 Sw12 => ?_)
 obtain ⟨g13, g13c, rfl, Cg13, M9⟩ := hv9
 replace M := M.call1 M9
 clear Sw12
 simp only [putT, List.set]
 refine wpL_guard (by rfl) ?_
 refine wpL_callE (f := 26) (args := #[]) (R := fun v9 W9 => ∃ g15 g15c, v9 = .slice (some ⟨g15, 0, none⟩) 64 g15c ∧ 64 ≤ g15c ∧ Mem [] w12 W9 [⟨g15, g15c, [(0, ucells keyL)]⟩]) (by rfl) (by rfl) rfl Tryd.func26 (by kernel_rfl) (by kernel_rfl) (uroots_k) (fun v9 w14 hv9 Sw14 => ?_)
 obtain ⟨g15, g15c, rfl, Cg15, M9⟩ := hv9
 replace M := M.call1 M9
 clear Sw14
 simp only [putT, List.set]
 refine wpL_chunk 2 (by rfl) (fun Lk hLk => ?_)
 simp only [List.take, List.drop]
 refine wpV_callf (v := .bool true) (args := #[.slice (some ⟨g13, 0, none⟩) 64 g13c, .slice (some ⟨g15, 0, none⟩) 64 g15c]) (by rfl) rfl Tryd.func24 (by kernel_rfl) (by kernel_rfl) rfl (fun W hW => same02_c (l := keyL) (by decide) (RowA.of ((M.sees hW).r 1 0 rfl rfl) ((M.sees hW).lt 1 rfl) (by rfl) Cg13) (RowA.of ((M.sees hW).r 0 0 rfl rfl) ((M.sees hW).lt 0 rfl) (by rfl) Cg15)) ?_
 simp only [putT, List.set]
 refine wpV_pick (v := .bool true) (by rfl) rfl rfl rfl ?_
 simp only [putT, List.set]
 refine wpV_nil (hLk _ (fun w16 Sw16 => ?_))
 clear hLk Lk
 simp only [List.take, List.drop]
 replace M := M.sees Sw16
 refine wpL_move (v := .bool true) (by rfl) (by rfl) (by rfl) ?_
 simp only [putT, List.set]
 refine wpL_guard (by rfl) ?_
 refine wpL_callE (f := 27) (args := #[]) (R := fun v9 W9 => ∃ g18 g18c, v9 = .slice (some ⟨g18, 0, none⟩) 8 g18c ∧ 8 ≤ g18c ∧ Mem [] w16 W9 [⟨g18, g18c, [(0, ucells [H0.a, H0.b, H0.c, H0.d, H0.e, H0.f, H0.g, H0.h])]⟩]) (by rfl) (by rfl) rfl Tryd.func27 (by kernel_rfl) (by kernel_rfl) (first_c) (fun v9 w17 hv9 Sw17 => ?_)
 obtain ⟨g18, g18c, rfl, Cg18, M9⟩ := hv9
 replace M := M.call1 M9
 clear Sw17
 simp only [putT, List.set]
 refine wpL_guard (by rfl) ?_
 refine wpL_callE (f := 28) (args := #[]) (R := fun v9 W9 => ∃ g20 g20c, v9 = .slice (some ⟨g20, 0, none⟩) 8 g20c ∧ 8 ≤ g20c ∧ Mem [] w17 W9 [⟨g20, g20c, [(0, ucells [H0.a, H0.b, H0.c, H0.d, H0.e, H0.f, H0.g, H0.h])]⟩]) (by rfl) (by rfl) rfl Tryd.func28 (by kernel_rfl) (by kernel_rfl) (ubegins_k) (fun v9 w19 hv9 Sw19 => ?_)
 obtain ⟨g20, g20c, rfl, Cg20, M9⟩ := hv9
 replace M := M.call1 M9
 clear Sw19
 simp only [putT, List.set]
 refine wpL_chunk 2 (by rfl) (fun Lk hLk => ?_)
 simp only [List.take, List.drop]
 refine wpV_callf (v := .bool true) (args := #[.slice (some ⟨g18, 0, none⟩) 8 g18c, .slice (some ⟨g20, 0, none⟩) 8 g20c]) (by rfl) rfl Tryd.func24 (by kernel_rfl) (by kernel_rfl) rfl (fun W hW => same02_c (l := [H0.a, H0.b, H0.c, H0.d, H0.e, H0.f, H0.g, H0.h]) (by decide) (RowA.of ((M.sees hW).r 1 0 rfl rfl) ((M.sees hW).lt 1 rfl) (by rfl) Cg18) (RowA.of ((M.sees hW).r 0 0 rfl rfl) ((M.sees hW).lt 0 rfl) (by rfl) Cg20)) ?_
 simp only [putT, List.set]
 refine wpV_pick (v := .bool true) (by rfl) rfl rfl rfl ?_
 simp only [putT, List.set]
 refine wpV_nil (hLk _ (fun w21 Sw21 => ?_))
 clear hLk Lk
 simp only [List.take, List.drop]
 replace M := M.sees Sw21
 refine wpL_assign (v := .bool true) (by rfl) (by rfl) (by rfl) ?_
 simp only [putT, List.set]
 refine wpL_nil (no_panic ?_)
 refine hK6 _ _ ?_
 refine wp_ret ?_
 repeat (first | with_reducible refine then_ret ?_ | with_reducible refine inblock_ret ?_)
 refine bodyPost_ret (v := .bool true) (res1 rfl (.tmp (by rfl))) rfl ?_
 have BE := M.below
 exact ⟨by simp, BE⟩
end Go.Proofs.Yb

