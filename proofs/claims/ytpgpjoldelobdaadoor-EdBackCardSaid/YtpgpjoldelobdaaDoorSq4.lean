import Derived.WalkKit
import Derived.WalkSpells
import Derived.Laws.Pointers
import Derived.RowKit3
import Derived.Below
import Derived.Outline
import Derived.LoopN
import Derived.Lib.Hide
import Derived.Handy
import Derived.Laws.Bits64b
import Derived.Test.YtpgpjoldelobdaaDoorSq3
set_option linter.unusedSimpArgs false
set_option linter.unusedVariables false
namespace Go.Proofs.Yc
open Go Go.RowKit Go.Proofs.Num
open Nat renaming zero_add → Z1
open List renaming set → Z5, take → Z6, drop → Z7
open Go renaming undef → Z8, wp_seq_k → Z9, wp_cond_true → Z10, wp_cond_false → Z11
open Go.Proofs.Num renaming putT → Z12, wp_region_seq → Z13, wpL_nil → Z14, no_panic → Z15, wpL_chunk → Z16, wpL_move → Z17, wpL_assign → Z18, wpV_nil → Z19, wpV_bin → Z20, wpV_val → Z24, wpV_callf → Z25, wpL_store → Z33, wpV_load1 → Z34, wpL_var → Z36
attribute [local irreducible] wpV wpN wpList
open Go.Proofs.Ya
theorem mem_neKq {w0 w : World} {l : List Bk} {b : Bk} (h : Mem [] w0 w l) (k : Nat) (hk : l[k]? = some b) {n : Nat} (h0 : n < w0.heap.size) : b.g ≠ n := fun e => by
 rcases (h.ok b (mem_of hk)).own with ho | ho
 ·
  omega
 ·
  cases ho
set_option maxHeartbeats 1000000 in
theorem new_cq  {w : World}  :
  Calls Tryd.prog 122 #[] w fun e w' => e = .returned (.agg ([.int .u64 ((H0q.a : Nat) : Int), .int .u64 ((H0q.b : Nat) : Int), .int .u64 ((H0q.c : Nat) : Int), .int .u64 ((H0q.d : Nat) : Int), .int .u64 ((H0q.e : Nat) : Int), .int .u64 ((H0q.f : Nat) : Int), .int .u64 ((H0q.g : Nat) : Int), .int .u64 ((H0q.h : Nat) : Int)] ++ [.string (bs [])] ++ [.int .u64 ((0 : Nat) : Int)] : List Value).toArray) ∧ Below w.heap.size w w' := by
 go_enter Tryd.func122, Tryd.ntmps122
 have M := Mem.start w
 refine Z9 (fun K1 hK1 => ?_)
 refine Z13 ?_
 refine Z36 (t := 171) (cs := [.int .u64 0, .int .u64 0, .int .u64 0, .int .u64 0, .int .u64 0, .int .u64 0, .int .u64 0, .int .u64 0, .string { data := #[] }, .int .u64 0]) (by rfl) (fun W => ?_) (fun g3 w4 Sw4 Hg3 Bg3 => ?_)
 ·
  go_simp
 replace M := ((M.sees Sw4).addS (N := 10) (cs := [.int .u64 0, .int .u64 0, .int .u64 0, .int .u64 0, .int .u64 0, .int .u64 0, .int .u64 0, .int .u64 0, .string { data := #[] }, .int .u64 0]) (segs := [(0, [.int .u64 0, .int .u64 0, .int .u64 0, .int .u64 0, .int .u64 0, .int .u64 0, .int .u64 0, .int .u64 0]), (8, [.string { data := #[] }]), (9, [.int .u64 0])]) (M.ge Hg3) (M.fresh Hg3) Bg3 rfl ⟨rfl, rfl, rfl, trivial⟩)
 clear Bg3
 simp only [Z12, Z5]
 refine Z14 (Z15 ?_)
 refine hK1 _ _ ?_
 refine Z9 (fun K5 hK5 => ?_)
 refine Z13 ?_
 refine Z16 2 (by rfl) (fun Lk hLk => ?_)
 simp only [Z6, Z7]
 refine Z24 (v := .agg ([.int .u64 7640891576956012808, .int .u64 13503953896175478587, .int .u64 4354685564936845355, .int .u64 11912009170470909681, .int .u64 5840696475078001361, .int .u64 11170449401992604703, .int .u64 2270897969802886507, .int .u64 6620516959819538809]).toArray) (by rfl) (by rfl) (fun W hW => ?_) ?_
 ·
  (unfold RunsVal; kernel_rfl)
 simp only [Z12, Z5]
 refine Z24 (v := .agg ([.int .u64 7640891576956012808, .int .u64 13503953896175478587, .int .u64 4354685564936845355, .int .u64 11912009170470909681, .int .u64 5840696475078001361, .int .u64 11170449401992604703, .int .u64 2270897969802886507, .int .u64 6620516959819538809, .string { data := #[] }, .int .u64 0]).toArray) (by rfl) (by rfl) (fun W hW => ?_) ?_
 ·
  (unfold RunsVal; kernel_rfl)
 simp only [Z12, Z5]
 refine Z19 (hLk _ (fun w7 Sw7 => ?_))
 clear hLk Lk
 simp only [Z6, Z7]
 replace M := M.sees Sw7
 refine Z33 (g := g3) (off := 0) (n := 10) (cs := [.int .u64 7640891576956012808, .int .u64 13503953896175478587, .int .u64 4354685564936845355, .int .u64 11912009170470909681, .int .u64 5840696475078001361, .int .u64 11170449401992604703, .int .u64 2270897969802886507, .int .u64 6620516959819538809, .string { data := #[] }, .int .u64 0]) (by rfl) (by rfl) (by rfl) (by rfl) (by rfl) (M.t 0 rfl) (by simp [flen]) info171 (by simp [fone, Value.oneCell']) (fun w8 P R T => ?_)
 replace M := M.put (segs' := [(0, [.int .u64 7640891576956012808, .int .u64 13503953896175478587, .int .u64 4354685564936845355, .int .u64 11912009170470909681, .int .u64 5840696475078001361, .int .u64 11170449401992604703, .int .u64 2270897969802886507, .int .u64 6620516959819538809]), (8, [.string { data := #[] }]), (9, [.int .u64 0])]) 0 rfl P T (SegsOf.at R ⟨rfl, rfl, rfl, trivial⟩)
 simp only [Z5] at M
 refine Z14 (Z15 ?_)
 refine hK5 _ _ ?_
 refine wp_ret ?_
 repeat (first | with_reducible refine then_ret ?_ | with_reducible refine inblock_ret ?_)
 refine bodyPost_ret (v := .agg ([.int .u64 7640891576956012808, .int .u64 13503953896175478587, .int .u64 4354685564936845355, .int .u64 11912009170470909681, .int .u64 5840696475078001361, .int .u64 11170449401992604703, .int .u64 2270897969802886507, .int .u64 6620516959819538809] ++ [.string { data := #[] }] ++ [.int .u64 0] : List Value).toArray) (res1 rfl (.cell (by rfl) (run_loadVar_mid _ _ _ _ ([.int .u64 7640891576956012808, .int .u64 13503953896175478587, .int .u64 4354685564936845355, .int .u64 11912009170470909681, .int .u64 5840696475078001361, .int .u64 11170449401992604703, .int .u64 2270897969802886507, .int .u64 6620516959819538809] ++ [.string { data := #[] }] ++ [.int .u64 0]) _ (range_join (range_join (M.r 0 0 rfl rfl) (M.r 0 1 rfl rfl) (by simp [flen])) (M.r 0 2 rfl rfl) (by simp [flen])) Tryd.underlying171 rfl info171))) rfl ?_
 have BE := M.below
 exact ⟨rfl, BE⟩
set_option maxHeartbeats 2000000 in
theorem sum_cq {ps : List (List UInt8)} {g0 cg0 : Nat} {w : World} (hq : ps.length ≤ 4611686018427387904) (hp : ∀ k, (ps.getD k []).length ≤ 9223372036854775680) (L2 : 2 < w.heap.size) (R2_0 : w.rangeAt 2 0 kcellsq) (hcg0 : ps.length ≤ cg0) (Lg0 : g0 < w.heap.size) (Rg0_0 : w.rangeAt g0 0 (scells ps)) :
  Calls Tryd.prog 82 #[.slice (some ⟨g0, 0, none⟩) ps.length cg0] w fun e w' => e = .returned (.string (bs (shaq ps.flatten))) ∧ Below w.heap.size w w' := by
 go_enter Tryd.func82, Tryd.ntmps82
 have M := Mem.start w
 refine Z9 (fun K1 hK1 => ?_)
 refine Z13 ?_
 refine Z18 (v := .string (bs ([]))) (by rfl) (by rfl) (by rfl) ?_
 simp only [Z12, Z5]
 refine Z14 (Z15 ?_)
 refine hK1 _ _ ?_
 refine Z9 (fun K3 hK3 => ?_)
 refine Z13 ?_
 refine Z16 2 (by rfl) (fun Lk hLk => ?_)
 simp only [Z6, Z7]
 refine Z25 (v := .agg ([.int .u64 ((H0q.a : Nat) : Int), .int .u64 ((H0q.b : Nat) : Int), .int .u64 ((H0q.c : Nat) : Int), .int .u64 ((H0q.d : Nat) : Int), .int .u64 ((H0q.e : Nat) : Int), .int .u64 ((H0q.f : Nat) : Int), .int .u64 ((H0q.g : Nat) : Int), .int .u64 ((H0q.h : Nat) : Int)] ++ [.string (bs [])] ++ [.int .u64 ((0 : Nat) : Int)] : List Value).toArray) (args := #[]) (by rfl) rfl Tryd.func122 (by kernel_rfl) (by kernel_rfl) rfl (fun W hW => new_cq) ?_
 simp only [Z12, Z5]
 refine Z24 (v := .agg ([.int .u64 ((H0q.a : Nat) : Int), .int .u64 ((H0q.b : Nat) : Int), .int .u64 ((H0q.c : Nat) : Int), .int .u64 ((H0q.d : Nat) : Int), .int .u64 ((H0q.e : Nat) : Int), .int .u64 ((H0q.f : Nat) : Int), .int .u64 ((H0q.g : Nat) : Int), .int .u64 ((H0q.h : Nat) : Int)] ++ [.string (bs [])] ++ [.int .u64 ((0 : Nat) : Int)] : List Value).toArray) (by rfl) (by rfl) (fun W hW => ?_) ?_
 ·
  (unfold RunsVal; kernel_rfl)
 simp only [Z12, Z5]
 refine Z19 (hLk _ (fun w5 Sw5 => ?_))
 clear hLk Lk
 simp only [Z6, Z7]
 replace M := M.sees Sw5
 refine Z36 (t := 174) (cs := [.int .u64 ((H0q.a : Nat) : Int), .int .u64 ((H0q.b : Nat) : Int), .int .u64 ((H0q.c : Nat) : Int), .int .u64 ((H0q.d : Nat) : Int), .int .u64 ((H0q.e : Nat) : Int), .int .u64 ((H0q.f : Nat) : Int), .int .u64 ((H0q.g : Nat) : Int), .int .u64 ((H0q.h : Nat) : Int)] ++ [.string (bs [])] ++ [.int .u64 ((0 : Nat) : Int)]) (by rfl) (fun W => ?_) (fun g6 w7 Sw7 Hg6 Bg6 => ?_)
 ·
  (first | rfl | go_simp)
 replace M := ((M.sees Sw7).addS (N := 10) (cs := [.int .u64 ((H0q.a : Nat) : Int), .int .u64 ((H0q.b : Nat) : Int), .int .u64 ((H0q.c : Nat) : Int), .int .u64 ((H0q.d : Nat) : Int), .int .u64 ((H0q.e : Nat) : Int), .int .u64 ((H0q.f : Nat) : Int), .int .u64 ((H0q.g : Nat) : Int), .int .u64 ((H0q.h : Nat) : Int)] ++ [.string (bs [])] ++ [.int .u64 ((0 : Nat) : Int)]) (segs := [(0, [.int .u64 ((H0q.a : Nat) : Int), .int .u64 ((H0q.b : Nat) : Int), .int .u64 ((H0q.c : Nat) : Int), .int .u64 ((H0q.d : Nat) : Int), .int .u64 ((H0q.e : Nat) : Int), .int .u64 ((H0q.f : Nat) : Int), .int .u64 ((H0q.g : Nat) : Int), .int .u64 ((H0q.h : Nat) : Int)]), (8, [.string (bs [])]), (9, [.int .u64 ((0 : Nat) : Int)])]) (M.ge Hg6) (M.fresh Hg6) Bg6 (by simp [flen]) ⟨rfl, rfl, rfl, trivial⟩)
 clear Bg6
 simp only [Z12, Z5]
 refine Z18 (v := .pointer (some ⟨g6, 0, none⟩)) (by rfl) (by rfl) (by rfl) ?_
 simp only [Z12, Z5]
 refine Z14 (Z15 ?_)
 refine hK3 _ _ ?_
 refine Z9 (fun K8 hK8 => ?_)
 refine Z9 (fun K9 hK9 => ?_)
 refine Z13 ?_
 refine Z17 (v := .slice (some ⟨g0, 0, none⟩) ps.length cg0) (by rfl) (by rfl) (by rfl) ?_
 simp only [Z12, Z5]
 refine Z16 1 (by rfl) (fun Lk hLk => ?_)
 simp only [Z6, Z7]
 refine wpV_lenA (n := ps.length) (by rfl) rfl rfl rfl Tryd.underlying37 ?_
 simp only [Z12, Z5]
 refine Z19 (hLk _ (fun w11 Sw11 => ?_))
 clear hLk Lk
 simp only [Z6, Z7]
 replace M := M.sees Sw11
 refine Z17 (v := .int .i64 0) (by rfl) (by rfl) (by rfl) ?_
 simp only [Z12, Z5]
 refine Z14 (Z15 ?_)
 refine hK9 _ _ ?_
 refine wp_block ?_
 replace M := M.read (segs' := [(0, [.int .u64 (((takeHq H0q (ps.take 0).flatten).a : Nat) : Int), .int .u64 (((takeHq H0q (ps.take 0).flatten).b : Nat) : Int), .int .u64 (((takeHq H0q (ps.take 0).flatten).c : Nat) : Int), .int .u64 (((takeHq H0q (ps.take 0).flatten).d : Nat) : Int), .int .u64 (((takeHq H0q (ps.take 0).flatten).e : Nat) : Int), .int .u64 (((takeHq H0q (ps.take 0).flatten).f : Nat) : Int), .int .u64 (((takeHq H0q (ps.take 0).flatten).g : Nat) : Int), .int .u64 (((takeHq H0q (ps.take 0).flatten).h : Nat) : Int)]), (8, [.string (bs (takeRq (ps.take 0).flatten))]), (9, [.int .u64 ((((ps.take 0).flatten.length % 18446744073709551616) : Nat) : Int)])]) 0 rfl (segs3 (by rw [show (ps.take 0).flatten = [] from rfl, take_zeroq.1]; exact (M.r 0 0 rfl rfl)) (by rw [show (ps.take 0).flatten = [] from rfl, take_zeroq.2]; exact (M.r 0 1 rfl rfl)) (by rw [show (ps.take 0).flatten = [] from rfl]; exact (M.r 0 2 rfl rfl)))
 simp only [Z5] at M
 refine wp_loop_ghost (fun n9 a9 W9 => ∃ (k : Nat) (u12 : Nat → Value), n9 = ps.length - k ∧ a9 = { tmps := #[.slice (some ⟨g0, 0, none⟩) ps.length cg0, Z8, .string (bs ([])), .pointer (some ⟨g6, 0, none⟩), Z8, u12 5, .agg ([.int .u64 ((H0q.a : Nat) : Int), .int .u64 ((H0q.b : Nat) : Int), .int .u64 ((H0q.c : Nat) : Int), .int .u64 ((H0q.d : Nat) : Int), .int .u64 ((H0q.e : Nat) : Int), .int .u64 ((H0q.f : Nat) : Int), .int .u64 ((H0q.g : Nat) : Int), .int .u64 ((H0q.h : Nat) : Int)] ++ [.string (bs [])] ++ [.int .u64 ((0 : Nat) : Int)] : List Value).toArray, .agg ([.int .u64 ((H0q.a : Nat) : Int), .int .u64 ((H0q.b : Nat) : Int), .int .u64 ((H0q.c : Nat) : Int), .int .u64 ((H0q.d : Nat) : Int), .int .u64 ((H0q.e : Nat) : Int), .int .u64 ((H0q.f : Nat) : Int), .int .u64 ((H0q.g : Nat) : Int), .int .u64 ((H0q.h : Nat) : Int)] ++ [.string (bs [])] ++ [.int .u64 ((0 : Nat) : Int)] : List Value).toArray, .pointer (some ⟨g6, 0, none⟩), .slice (some ⟨g0, 0, none⟩) ps.length cg0, .int .i64 ((ps.length : Nat) : Int), .int .i64 ((k : Nat) : Int), u12 12, u12 13, u12 14, u12 15, u12 16, u12 17, u12 18, Z8, Z8], defers := [] } ∧ Mem [] w W9 [⟨g6, 10, [(0, [.int .u64 (((takeHq H0q (ps.take k).flatten).a : Nat) : Int), .int .u64 (((takeHq H0q (ps.take k).flatten).b : Nat) : Int), .int .u64 (((takeHq H0q (ps.take k).flatten).c : Nat) : Int), .int .u64 (((takeHq H0q (ps.take k).flatten).d : Nat) : Int), .int .u64 (((takeHq H0q (ps.take k).flatten).e : Nat) : Int), .int .u64 (((takeHq H0q (ps.take k).flatten).f : Nat) : Int), .int .u64 (((takeHq H0q (ps.take k).flatten).g : Nat) : Int), .int .u64 (((takeHq H0q (ps.take k).flatten).h : Nat) : Int)]), (8, [.string (bs (takeRq (ps.take k).flatten))]), (9, [.int .u64 ((((ps.take k).flatten.length % 18446744073709551616) : Nat) : Int)])]⟩] ∧ (k ≤ ps.length)) (ps.length - (0)) ?_ (fun n9 a9 W9 hI => ?_)
 ·
  exact ⟨0, (fun q9 => (#[Z8, Z8, Z8, Z8, Z8, Z8, Z8, Z8, Z8, Z8, Z8, Z8, Z8, Z8, Z8, Z8, Z8, Z8, Z8] : Array Value).getD q9 Z8), rfl, rfl, M, (by omega)⟩
 clear M
 obtain ⟨k, u12, rfl, rfl, M, hk4⟩ := hI
 obtain ⟨w13, rfl⟩ : ∃ W8, W8 = W9 := ⟨_, rfl⟩
 refine Z9 (fun K14 hK14 => ?_)
 refine Z13 ?_
 refine Z16 1 (by rfl) (fun Lk hLk => ?_)
 simp only [Z6, Z7]
 refine Z20 (v := .bool (decide (k < ps.length))) (by rfl) rfl rfl rfl (fun W => run_lssN k ps.length _ _ W) ?_
 simp only [Z12, Z5]
 refine Z19 (hLk _ (fun w16 Sw16 => ?_))
 clear hLk Lk
 simp only [Z6, Z7]
 replace M := M.sees Sw16
 refine Z14 (Z15 ?_)
 refine hK14 _ _ ?_
 refine Z9 (fun K17 hK17 => ?_)
 cases hc18 : (decide (k < ps.length))
 ·
  have ek : k = ps.length := by have := of_decide_eq_false hc18; omega
  subst ek
  refine Z11 rfl ?_
  refine wp_exit ?_
  refine hK8 _ _ ?_
  refine Z9 (fun K19 hK19 => ?_)
  refine Z13 ?_
  refine Z17 (v := .pointer (some ⟨g6, 0, none⟩)) (by rfl) (by rfl) (by rfl) ?_
  simp only [Z12, Z5]
  refine wpL_callM (f := 124) (args := #[.pointer (some ⟨g6, 0, none⟩)]) (R := fun v9 W9 => v9 = .string (bs (endLq (takeHq H0q (ps.take ps.length).flatten) (takeRq (ps.take ps.length).flatten) ((ps.take ps.length).flatten.length % 18446744073709551616))) ∧ Mem [g6] w16 W9 [⟨g6, 10, []⟩]) (by rfl) (by rfl) rfl Tryd.func124 (by kernel_rfl) (by kernel_rfl) (end_cq (h := (takeHq H0q (ps.take ps.length).flatten)) (b := (takeRq (ps.take ps.length).flatten)) (n := ((ps.take ps.length).flatten.length % 18446744073709551616)) (takeH_okq _ _ _ (Nat.le_refl _) H0_okq) (takeR_lenq _) (mod_lt64 _) (mem_neKq M 0 rfl L2) (M.oldL L2) (M.oldR R2_0 L2) (M.one 0 rfl)) (fun v9 w21 h9 => ?_)
  obtain ⟨rfl, M9⟩ := h9
  replace M := M.callM1 0 rfl M9
  simp only [Z5] at M
  simp only [Z12, Z5]
  refine Z18 (v := .string (bs (endLq (takeHq H0q (ps.take ps.length).flatten) (takeRq (ps.take ps.length).flatten) ((ps.take ps.length).flatten.length % 18446744073709551616)))) (by rfl) (by rfl) (by rfl) ?_
  simp only [Z12, Z5]
  refine Z14 (Z15 ?_)
  refine hK19 _ _ ?_
  refine wp_ret ?_
  repeat (first | with_reducible refine then_ret ?_ | with_reducible refine inblock_ret ?_)
  refine bodyPost_ret (v := .string (bs (endLq (takeHq H0q (ps.take ps.length).flatten) (takeRq (ps.take ps.length).flatten) ((ps.take ps.length).flatten.length % 18446744073709551616)))) (res1 rfl (.tmp (by rfl))) rfl ?_
  have BE := M.below
  exact ⟨by rw [sha_flatq], BE⟩
 ·
  have hk : k < ps.length := of_decide_eq_true hc18
  refine Z10 rfl ?_
  refine wp_skip ?_
  refine hK17 _ _ ?_
  refine Z9 (fun K22 hK22 => ?_)
  refine wp_block ?_
  refine Z9 (fun K23 hK23 => ?_)
  refine Z13 ?_
  refine Z16 2 (by rfl) (fun Lk hLk => ?_)
  simp only [Z6, Z7]
  refine wpV_idxs (n := k) (by rfl) rfl rfl rfl Tryd.underlying37 info9 (by omega) ?_
  simp only [Z1]
  simp only [Z12, Z5]
  refine Z34 (v := .string (bs (ps.getD k []))) (by rfl) rfl rfl (zadd ((M.oldR Rg0_0 Lg0) _ _ (scells_get (ps := ps) (by omega)))) (M.oldL Lg0) Tryd.underlying9 rfl ?_
  simp only [Z12, Z5]
  refine Z19 (hLk _ (fun w25 Sw25 => ?_))
  clear hLk Lk
  simp only [Z6, Z7]
  replace M := M.sees Sw25
  refine Z18 (v := .string (bs (ps.getD k []))) (by rfl) (by rfl) (by rfl) ?_
  simp only [Z12, Z5]
  refine Z14 (Z15 ?_)
  refine hK23 _ _ ?_
  refine Z13 ?_
  refine Z17 (v := .pointer (some ⟨g6, 0, none⟩)) (by rfl) (by rfl) (by rfl) ?_
  simp only [Z12, Z5]
  refine Z17 (v := .string (bs (ps.getD k []))) (by rfl) (by rfl) (by rfl) ?_
  simp only [Z12, Z5]
  refine wpL_callM (f := 123) (args := #[.pointer (some ⟨g6, 0, none⟩), .string (bs (ps.getD k []))]) (R := fun v9 W9 => v9 = .tuple #[] ∧ Mem [g6] w25 W9 [⟨g6, 10, [(0, [.int .u64 (((takeHq (takeHq H0q (ps.take k).flatten) ((takeRq (ps.take k).flatten) ++ (ps.getD k []))).a : Nat) : Int), .int .u64 (((takeHq (takeHq H0q (ps.take k).flatten) ((takeRq (ps.take k).flatten) ++ (ps.getD k []))).b : Nat) : Int), .int .u64 (((takeHq (takeHq H0q (ps.take k).flatten) ((takeRq (ps.take k).flatten) ++ (ps.getD k []))).c : Nat) : Int), .int .u64 (((takeHq (takeHq H0q (ps.take k).flatten) ((takeRq (ps.take k).flatten) ++ (ps.getD k []))).d : Nat) : Int), .int .u64 (((takeHq (takeHq H0q (ps.take k).flatten) ((takeRq (ps.take k).flatten) ++ (ps.getD k []))).e : Nat) : Int), .int .u64 (((takeHq (takeHq H0q (ps.take k).flatten) ((takeRq (ps.take k).flatten) ++ (ps.getD k []))).f : Nat) : Int), .int .u64 (((takeHq (takeHq H0q (ps.take k).flatten) ((takeRq (ps.take k).flatten) ++ (ps.getD k []))).g : Nat) : Int), .int .u64 (((takeHq (takeHq H0q (ps.take k).flatten) ((takeRq (ps.take k).flatten) ++ (ps.getD k []))).h : Nat) : Int)]), (8, [.string (bs (takeRq ((takeRq (ps.take k).flatten) ++ (ps.getD k []))))]), (9, [.int .u64 ((((((ps.take k).flatten.length % 18446744073709551616) + (ps.getD k []).length) % 18446744073709551616) : Nat) : Int)])]⟩]) (by rfl) (by rfl) rfl Tryd.func123 (by kernel_rfl) (by kernel_rfl) (take_cq (h := (takeHq H0q (ps.take k).flatten)) (b := (takeRq (ps.take k).flatten)) (l := (ps.getD k [])) (n := ((ps.take k).flatten.length % 18446744073709551616)) (takeH_okq _ _ _ (Nat.le_refl _) H0_okq) (takeR_lenq _) (hp k) (mem_neKq M 0 rfl L2) (M.oldL L2) (M.oldR R2_0 L2) (M.one 0 rfl)) (fun v9 w27 h9 => ?_)
  obtain ⟨rfl, M9⟩ := h9
  replace M := M.callM1 0 rfl M9
  simp only [Z5] at M
  simp only [Z12, Z5]
  refine Z14 (Z15 ?_)
  rw [← takeH_appendq, ← takeR_appendq, len_step, flat_step hk] at M
  refine hK22 _ _ ?_
  refine Z13 ?_
  refine Z16 1 (by rfl) (fun Lk hLk => ?_)
  simp only [Z6, Z7]
  refine Z20 (v := .int .i64 ((k + 1 : Nat) : Int)) (by rfl) rfl rfl rfl (fun W => run_add (by simp only [IntKind.wrap_i64]; omega) W) ?_
  simp only [Z12, Z5]
  refine Z19 (hLk _ (fun w29 Sw29 => ?_))
  clear hLk Lk
  simp only [Z6, Z7]
  replace M := M.sees Sw29
  refine Z17 (v := .int .i64 ((k + 1 : Nat) : Int)) (by rfl) (by rfl) (by rfl) ?_
  simp only [Z12, Z5]
  refine Z14 (Z15 ?_)
  refine Exists.intro _ ⟨?_, (k + 1), (fun q9 => (#[Z8, Z8, Z8, Z8, Z8, .string (bs (ps.getD k [])), Z8, Z8, Z8, Z8, Z8, Z8, .bool true, .pointer (some ⟨g0, k, none⟩), .string (bs (ps.getD k [])), .pointer (some ⟨g6, 0, none⟩), .string (bs (ps.getD k [])), .tuple #[], .int .i64 ((k + 1 : Nat) : Int)] : Array Value).getD q9 Z8), rfl, rfl, M, (by omega)⟩
  omega
end Go.Proofs.Yc

