import Derived.WalkKit
import Derived.WalkSpells
import Derived.Laws.Pointers
import Derived.RowKit3
import Derived.Below
import Derived.Outline
import Derived.LoopN
import Derived.Lib.Hide
import Derived.Handy
import Derived.Laws.Bits64b
import Derived.Test.YtpgpjoldelobdaaDoorSh3
import Derived.Test.YtpgpjoldelobdaaDoorSteps4
import Derived.Test.YtpgpjoldelobdaaDoorAdds2
import Derived.Test.YtpgpjoldelobdaaDoorSq4
import Derived.Test.YtpgpjoldelobdaaDoorBld
import Derived.Lib.Bytealg
import Derived.Test.YtpgpjoldelobdaaDoorSteps13
import Derived.Test.YtpgpjoldelobdaaDoorEdB
import Derived.Test.YtpgpjoldelobdaaDoorEqS
import Derived.Test.YtpgpjoldelobdaaDoorShq
set_option linter.unusedSimpArgs false
set_option linter.unusedVariables false
namespace Go.Proofs.Yc
open Go Go.RowKit Go.Proofs.Num
open Tryd renaming underlying37 → U937
open Go.Proofs.Num  renaming putT → Z0
open Nat renaming zero_add → Z2
open List renaming set → Z6, take → Z7, drop → Z8
open Go renaming undef → Z9, wp_seq_k → Z10, wp_cond_true → Z11, wp_cond_false → Z12
open Go.Proofs.Num renaming wp_region_seq → Z13, wpL_nil → Z14, no_panic → Z15, wpV_nil → Z19, wpV_callf → Z25, wpV_load1 → Z34, wpL_var → Z36
attribute [local irreducible] wpV wpN wpList
open Go.Proofs.Ya
theorem mem_neK {w0 w : World} {l : List Bk} {b : Bk} (h : Mem [] w0 w l) (k : Nat) (hk : l[k]? = some b) {n : Nat} (h0 : n < w0.heap.size) : b.g ≠ n := fun e => by
 rcases (h.ok b (mem_of hk)).own with ho | ho
 ·
  omega
 cases ho
set_option maxHeartbeats 1000000 in
theorem new_c  {w : World}  :
  Calls Tryd.prog 108 #[] w fun e w' => e = .returned (.agg ([.int .u32 H0.a, .int .u32 H0.b, .int .u32 H0.c, .int .u32 H0.d, .int .u32 H0.e, .int .u32 H0.f, .int .u32 H0.g, .int .u32 H0.h] ++ [.string (bs [])] ++ [.int .u64 (0 : Nat)] : List Value).toArray) ∧ Below w.heap.size w w' := by
 go_enter Tryd.func108, Tryd.ntmps108
 have M := Mem.start w
 refine Z10 (fun K1 hK1 => Z13 ?_)
 refine Z36 (t := 154) (cs := [.int .u32 0, .int .u32 0, .int .u32 0, .int .u32 0, .int .u32 0, .int .u32 0, .int .u32 0, .int .u32 0, .string { data := #[] }, .int .u64 0]) (by rfl) (fun W => ?_) (fun g3 w4 Sw4 Hg3 Bg3 => ?_)
 ·
  go_simp
 replace M := ((M.sees Sw4).addS (N := 10) (cs := [.int .u32 0, .int .u32 0, .int .u32 0, .int .u32 0, .int .u32 0, .int .u32 0, .int .u32 0, .int .u32 0, .string { data := #[] }, .int .u64 0]) (segs := [(0, [.int .u32 0, .int .u32 0, .int .u32 0, .int .u32 0, .int .u32 0, .int .u32 0, .int .u32 0, .int .u32 0]), (8, [.string { data := #[] }]), (9, [.int .u64 0])]) (M.ge Hg3) (M.fresh Hg3) Bg3 rfl ⟨rfl, rfl, rfl, trivial⟩)
 clear Bg3
 simp only [Z0, Z6]
 refine lNp (hK1 _ _ ?_)
 refine Z10 (fun K5 hK5 => Z13 ?_)
 refine lCh 2 (fun Lk hLk => ?_)
 refine vGk (v := .agg ([.int .u32 1779033703, .int .u32 3144134277, .int .u32 1013904242, .int .u32 2773480762, .int .u32 1359893119, .int .u32 2600822924, .int .u32 528734635, .int .u32 1541459225]).toArray) ?_
 simp only [Z0, Z6]
 refine vGk (v := .agg ([.int .u32 1779033703, .int .u32 3144134277, .int .u32 1013904242, .int .u32 2773480762, .int .u32 1359893119, .int .u32 2600822924, .int .u32 528734635, .int .u32 1541459225, .string { data := #[] }, .int .u64 0]).toArray) ?_
 simp only [Z0, Z6]
 refine Z19 (hLk _ (fun w7 Sw7 => ?_))
 simp only [Z7, Z8]
 replace M := M.sees Sw7
 refine lSt (g := g3) (off := 0) (n := 10) (cs := [.int .u32 1779033703, .int .u32 3144134277, .int .u32 1013904242, .int .u32 2773480762, .int .u32 1359893119, .int .u32 2600822924, .int .u32 528734635, .int .u32 1541459225, .string { data := #[] }, .int .u64 0]) (M.t 0 rfl) (by simp [flen]) info154 (by simp [fone, Value.oneCell']) (fun w8 P R T => ?_)
 replace M := M.put (segs' := [(0, [.int .u32 1779033703, .int .u32 3144134277, .int .u32 1013904242, .int .u32 2773480762, .int .u32 1359893119, .int .u32 2600822924, .int .u32 528734635, .int .u32 1541459225]), (8, [.string { data := #[] }]), (9, [.int .u64 0])]) 0 rfl P T (SegsOf.at R ⟨rfl, rfl, rfl, trivial⟩)
 simp only [Z6] at M
 refine lNp (hK5 _ _ ?_)
 refine wp_ret ?_
 repeat (first | with_reducible refine then_ret ?_ | with_reducible refine inblock_ret ?_)
 refine bodyPost_ret (v := .agg ([.int .u32 1779033703, .int .u32 3144134277, .int .u32 1013904242, .int .u32 2773480762, .int .u32 1359893119, .int .u32 2600822924, .int .u32 528734635, .int .u32 1541459225] ++ [.string { data := #[] }] ++ [.int .u64 0] : List Value).toArray) (res1 rfl (.cell (by rfl) (run_loadVar_mid _ _ _ _ ([.int .u32 1779033703, .int .u32 3144134277, .int .u32 1013904242, .int .u32 2773480762, .int .u32 1359893119, .int .u32 2600822924, .int .u32 528734635, .int .u32 1541459225] ++ [.string { data := #[] }] ++ [.int .u64 0]) _ (range_join (range_join (M.r 0 0 rfl rfl) (M.r 0 1 rfl rfl) (by simp [flen])) (M.r 0 2 rfl rfl) (by simp [flen])) Tryd.underlying154 rfl info154))) rfl ?_
 have BE := M.below
 exact ⟨rfl, BE⟩
set_option maxHeartbeats 2000000 in
theorem sum_c {ps : List (List UInt8)} {g0 cg0 : Nat} {w : World} (hq : ps.length ≤ 4611686018427387904) (hp : ∀ k, (ps.getD k []).length ≤ 9223372036854775744) (L1 : 1 < w.heap.size) (R1_0 : w.rangeAt 1 0 kcells) (hcg0 : ps.length ≤ cg0) (Lg0 : g0 < w.heap.size) (Rg0_0 : w.rangeAt g0 0 (scells ps)) :
  Calls Tryd.prog 75 #[.slice (some ⟨g0, 0, none⟩) ps.length cg0] w fun e w' => e = .returned (.string (bs (sha ps.flatten))) ∧ Below w.heap.size w w' := by
 go_enter Tryd.func75, Tryd.ntmps75
 have M := Mem.start w
 refine Z10 (fun K1 hK1 => Z13 ?_)
 refine lAs (v := .string (bs ([]))) ?_
 simp only [Z0, Z6]
 refine lNp (hK1 _ _ ?_)
 refine Z10 (fun K3 hK3 => Z13 ?_)
 refine lCh 2 (fun Lk hLk => ?_)
 refine Z25 (v := .agg ([.int .u32 H0.a, .int .u32 H0.b, .int .u32 H0.c, .int .u32 H0.d, .int .u32 H0.e, .int .u32 H0.f, .int .u32 H0.g, .int .u32 H0.h] ++ [.string (bs [])] ++ [.int .u64 (0 : Nat)] : List Value).toArray) (args := #[]) (by rfl) rfl Tryd.func108 (by kernel_rfl) (by kernel_rfl) rfl (fun W hW => new_c) ?_
 simp only [Z0, Z6]
 refine vGk (v := .agg ([.int .u32 H0.a, .int .u32 H0.b, .int .u32 H0.c, .int .u32 H0.d, .int .u32 H0.e, .int .u32 H0.f, .int .u32 H0.g, .int .u32 H0.h] ++ [.string (bs [])] ++ [.int .u64 (0 : Nat)] : List Value).toArray) ?_
 simp only [Z0, Z6]
 refine Z19 (hLk _ (fun w5 Sw5 => ?_))
 simp only [Z7, Z8]
 replace M := M.sees Sw5
 refine Z36 (t := 159) (cs := [.int .u32 H0.a, .int .u32 H0.b, .int .u32 H0.c, .int .u32 H0.d, .int .u32 H0.e, .int .u32 H0.f, .int .u32 H0.g, .int .u32 H0.h] ++ [.string (bs [])] ++ [.int .u64 (0 : Nat)]) (by rfl) (fun W => ?_) (fun g6 w7 Sw7 Hg6 Bg6 => ?_)
 ·
  (first | rfl | go_simp)
 replace M := ((M.sees Sw7).addS (N := 10) (cs := [.int .u32 H0.a, .int .u32 H0.b, .int .u32 H0.c, .int .u32 H0.d, .int .u32 H0.e, .int .u32 H0.f, .int .u32 H0.g, .int .u32 H0.h] ++ [.string (bs [])] ++ [.int .u64 (0 : Nat)]) (segs := [(0, [.int .u32 H0.a, .int .u32 H0.b, .int .u32 H0.c, .int .u32 H0.d, .int .u32 H0.e, .int .u32 H0.f, .int .u32 H0.g, .int .u32 H0.h]), (8, [.string (bs [])]), (9, [.int .u64 (0 : Nat)])]) (M.ge Hg6) (M.fresh Hg6) Bg6 (by simp [flen]) ⟨rfl, rfl, rfl, trivial⟩)
 clear Bg6
 simp only [Z0, Z6]
 refine lAs (v := .pointer (some ⟨g6, 0, none⟩)) ?_
 simp only [Z0, Z6]
 refine lNp (hK3 _ _ ?_)
 refine Z10 (fun K8 hK8 => ?_)
 refine Z10 (fun K9 hK9 => Z13 ?_)
 refine lMv (v := .slice (some ⟨g0, 0, none⟩) ps.length cg0) ?_
 simp only [Z0, Z6]
 refine lCh 1 (fun Lk hLk => ?_)
 refine wpV_lenA (n := ps.length) (by rfl) rfl rfl rfl U937 ?_
 simp only [Z0, Z6]
 refine Z19 (hLk _ (fun w11 Sw11 => ?_))
 simp only [Z7, Z8]
 replace M := M.sees Sw11
 refine lMv (v := .int .i64 0) ?_
 simp only [Z0, Z6]
 refine lNp (hK9 _ _ ?_)
 refine wp_block ?_
 replace M := M.read (segs' := [(0, [.int .u32 ((takeH H0 (ps.take 0).flatten).a : Nat), .int .u32 ((takeH H0 (ps.take 0).flatten).b : Nat), .int .u32 ((takeH H0 (ps.take 0).flatten).c : Nat), .int .u32 ((takeH H0 (ps.take 0).flatten).d : Nat), .int .u32 ((takeH H0 (ps.take 0).flatten).e : Nat), .int .u32 ((takeH H0 (ps.take 0).flatten).f : Nat), .int .u32 ((takeH H0 (ps.take 0).flatten).g : Nat), .int .u32 ((takeH H0 (ps.take 0).flatten).h : Nat)]), (8, [.string (bs (takeR (ps.take 0).flatten))]), (9, [.int .u64 (((ps.take 0).flatten.length % 18446744073709551616) : Nat)])]) 0 rfl (segs3 (by rw [show (ps.take 0).flatten = [] from rfl, take_zero.1]; exact (M.r 0 0 rfl rfl)) (by rw [show (ps.take 0).flatten = [] from rfl, take_zero.2]; exact (M.r 0 1 rfl rfl)) (by rw [show (ps.take 0).flatten = [] from rfl]; exact (M.r 0 2 rfl rfl)))
 simp only [Z6] at M
 refine wp_loop_ghost (fun n9 a9 W9 => ∃ (k : Nat) (u12 : Nat → Value), n9 = ps.length - k ∧ a9 = { tmps := #[.slice (some ⟨g0, 0, none⟩) ps.length cg0, Z9, .string (bs ([])), .pointer (some ⟨g6, 0, none⟩), Z9, u12 5, .agg ([.int .u32 H0.a, .int .u32 H0.b, .int .u32 H0.c, .int .u32 H0.d, .int .u32 H0.e, .int .u32 H0.f, .int .u32 H0.g, .int .u32 H0.h] ++ [.string (bs [])] ++ [.int .u64 (0 : Nat)] : List Value).toArray, .agg ([.int .u32 H0.a, .int .u32 H0.b, .int .u32 H0.c, .int .u32 H0.d, .int .u32 H0.e, .int .u32 H0.f, .int .u32 H0.g, .int .u32 H0.h] ++ [.string (bs [])] ++ [.int .u64 (0 : Nat)] : List Value).toArray, .pointer (some ⟨g6, 0, none⟩), .slice (some ⟨g0, 0, none⟩) ps.length cg0, .int .i64 ps.length, .int .i64 k, u12 12, u12 13, u12 14, u12 15, u12 16, u12 17, u12 18, Z9, Z9], defers := [] } ∧ Mem [] w W9 [⟨g6, 10, [(0, [.int .u32 ((takeH H0 (ps.take k).flatten).a : Nat), .int .u32 ((takeH H0 (ps.take k).flatten).b : Nat), .int .u32 ((takeH H0 (ps.take k).flatten).c : Nat), .int .u32 ((takeH H0 (ps.take k).flatten).d : Nat), .int .u32 ((takeH H0 (ps.take k).flatten).e : Nat), .int .u32 ((takeH H0 (ps.take k).flatten).f : Nat), .int .u32 ((takeH H0 (ps.take k).flatten).g : Nat), .int .u32 ((takeH H0 (ps.take k).flatten).h : Nat)]), (8, [.string (bs (takeR (ps.take k).flatten))]), (9, [.int .u64 (((ps.take k).flatten.length % 18446744073709551616) : Nat)])]⟩] ∧ (k ≤ ps.length)) (ps.length - (0)) ?_ (fun n9 a9 W9 hI => ?_)
 ·
  exact ⟨0, (fun q9 => (#[Z9, Z9, Z9, Z9, Z9, Z9, Z9, Z9, Z9, Z9, Z9, Z9, Z9, Z9, Z9, Z9, Z9, Z9, Z9] : Array Value).getD q9 Z9), rfl, rfl, M, (by omega)⟩
 clear M
 obtain ⟨k, u12, rfl, rfl, M, hk4⟩ := hI
 obtain ⟨w13, rfl⟩ : ∃ W8, W8 = W9 := ⟨_, rfl⟩
 refine Z10 (fun K14 hK14 => Z13 ?_)
 refine lCh 1 (fun Lk hLk => ?_)
 refine vBn (v := .bool (decide (k < ps.length))) (hr := fun W => run_lssN k ps.length _ _ W) ?_
 simp only [Z0, Z6]
 refine Z19 (hLk _ (fun w16 Sw16 => ?_))
 simp only [Z7, Z8]
 replace M := M.sees Sw16
 refine lNp (hK14 _ _ ?_)
 refine Z10 (fun K17 hK17 => ?_)
 cases hc18 : (decide (k < ps.length))
 ·
  have ek : k = ps.length := by have := of_decide_eq_false hc18; omega
  subst ek
  refine Z12 rfl ?_
  refine wp_exit ?_
  refine hK8 _ _ ?_
  refine Z10 (fun K19 hK19 => Z13 ?_)
  refine lMv (v := .pointer (some ⟨g6, 0, none⟩)) ?_
  simp only [Z0, Z6]
  refine wpL_callM (f := 110) (args := #[.pointer (some ⟨g6, 0, none⟩)]) (R := fun v9 W9 => v9 = .string (bs (endL (takeH H0 (ps.take ps.length).flatten) (takeR (ps.take ps.length).flatten) ((ps.take ps.length).flatten.length % 18446744073709551616))) ∧ Mem [g6] w16 W9 [⟨g6, 10, []⟩]) (by rfl) (by rfl) rfl Tryd.func110 (by kernel_rfl) (by kernel_rfl) (end_c (h := (takeH H0 (ps.take ps.length).flatten)) (b := (takeR (ps.take ps.length).flatten)) (n := ((ps.take ps.length).flatten.length % 18446744073709551616)) (takeH_ok _ _ _ (Nat.le_refl _) H0_ok) (takeR_len _) (mod_lt64 _) (mem_neK M 0 rfl L1) (M.oldL L1) (M.oldR R1_0 L1) (M.one 0 rfl)) (fun v9 w21 h9 => ?_)
  obtain ⟨rfl, M9⟩ := h9
  replace M := M.callM1 0 rfl M9
  simp only [Z6] at M
  simp only [Z0, Z6]
  refine lAs (v := .string (bs (endL (takeH H0 (ps.take ps.length).flatten) (takeR (ps.take ps.length).flatten) ((ps.take ps.length).flatten.length % 18446744073709551616)))) ?_
  simp only [Z0, Z6]
  refine lNp (hK19 _ _ ?_)
  refine wp_ret ?_
  repeat (first | with_reducible refine then_ret ?_ | with_reducible refine inblock_ret ?_)
  refine bodyPost_ret (v := .string (bs (endL (takeH H0 (ps.take ps.length).flatten) (takeR (ps.take ps.length).flatten) ((ps.take ps.length).flatten.length % 18446744073709551616)))) (res1 rfl (.tmp (by rfl))) rfl ?_
  have BE := M.below
  exact ⟨by rw [sha_flat], BE⟩
 have hk : k < ps.length := of_decide_eq_true hc18
 refine Z11 rfl ?_
 refine wp_skip ?_
 refine hK17 _ _ ?_
 refine Z10 (fun K22 hK22 => ?_)
 refine wp_block ?_
 refine Z10 (fun K23 hK23 => Z13 ?_)
 refine lCh 2 (fun Lk hLk => ?_)
 refine wpV_idxs (n := k) (by rfl) rfl rfl rfl U937 info9 (by omega) ?_
 simp only [Z2]
 simp only [Z0, Z6]
 refine Z34 (v := .string (bs (ps.getD k []))) (by rfl) rfl rfl (zadd ((M.oldR Rg0_0 Lg0) _ _ (scells_get (ps := ps) (by omega)))) (M.oldL Lg0) Tryd.underlying9 rfl ?_
 simp only [Z0, Z6]
 refine Z19 (hLk _ (fun w25 Sw25 => ?_))
 simp only [Z7, Z8]
 replace M := M.sees Sw25
 refine lAs (v := .string (bs (ps.getD k []))) ?_
 simp only [Z0, Z6]
 refine lNp (hK23 _ _ ?_)
 refine Z13 ?_
 refine lMv (v := .pointer (some ⟨g6, 0, none⟩)) ?_
 refine lMv (v := .string (bs (ps.getD k []))) ?_
 simp only [Z0, Z6]
 refine wpL_callM (f := 109) (args := #[.pointer (some ⟨g6, 0, none⟩), .string (bs (ps.getD k []))]) (R := fun v9 W9 => v9 = .tuple #[] ∧ Mem [g6] w25 W9 [⟨g6, 10, [(0, [.int .u32 (((takeH (takeH H0 (ps.take k).flatten) ((takeR (ps.take k).flatten) ++ (ps.getD k []))).a : Nat) : Int), .int .u32 (((takeH (takeH H0 (ps.take k).flatten) ((takeR (ps.take k).flatten) ++ (ps.getD k []))).b : Nat) : Int), .int .u32 (((takeH (takeH H0 (ps.take k).flatten) ((takeR (ps.take k).flatten) ++ (ps.getD k []))).c : Nat) : Int), .int .u32 (((takeH (takeH H0 (ps.take k).flatten) ((takeR (ps.take k).flatten) ++ (ps.getD k []))).d : Nat) : Int), .int .u32 (((takeH (takeH H0 (ps.take k).flatten) ((takeR (ps.take k).flatten) ++ (ps.getD k []))).e : Nat) : Int), .int .u32 (((takeH (takeH H0 (ps.take k).flatten) ((takeR (ps.take k).flatten) ++ (ps.getD k []))).f : Nat) : Int), .int .u32 (((takeH (takeH H0 (ps.take k).flatten) ((takeR (ps.take k).flatten) ++ (ps.getD k []))).g : Nat) : Int), .int .u32 (((takeH (takeH H0 (ps.take k).flatten) ((takeR (ps.take k).flatten) ++ (ps.getD k []))).h : Nat) : Int)]), (8, [.string (bs (takeR ((takeR (ps.take k).flatten) ++ (ps.getD k []))))]), (9, [.int .u64 ((((((ps.take k).flatten.length % 18446744073709551616) + (ps.getD k []).length) % 18446744073709551616) : Nat) : Int)])]⟩]) (by rfl) (by rfl) rfl Tryd.func109 (by kernel_rfl) (by kernel_rfl) (take_c (h := (takeH H0 (ps.take k).flatten)) (b := (takeR (ps.take k).flatten)) (l := (ps.getD k [])) (n := ((ps.take k).flatten.length % 18446744073709551616)) (takeH_ok _ _ _ (Nat.le_refl _) H0_ok) (takeR_len _) (hp k) (mem_neK M 0 rfl L1) (M.oldL L1) (M.oldR R1_0 L1) (M.one 0 rfl)) (fun v9 w27 h9 => ?_)
 obtain ⟨rfl, M9⟩ := h9
 replace M := M.callM1 0 rfl M9
 simp only [Z6] at M
 simp only [Z0, Z6]
 refine Z14 (Z15 ?_)
 rw [← takeH_append, ← takeR_append, len_step, flat_step hk] at M
 refine hK22 _ _ ?_
 refine Z13 ?_
 refine lCh 1 (fun Lk hLk => ?_)
 refine vBn (v := .int .i64 (k + 1 : Nat)) (hr := fun W => run_add (by simp only [IntKind.wrap_i64]; omega) W) ?_
 simp only [Z0, Z6]
 refine Z19 (hLk _ (fun w29 Sw29 => ?_))
 simp only [Z7, Z8]
 replace M := M.sees Sw29
 refine lMv (v := .int .i64 (k + 1 : Nat)) ?_
 simp only [Z0, Z6]
 refine Z14 (Z15 ?_)
 refine Exists.intro _ ⟨?_, (k + 1), (fun q9 => (#[Z9, Z9, Z9, Z9, Z9, .string (bs (ps.getD k [])), Z9, Z9, Z9, Z9, Z9, Z9, .bool true, .pointer (some ⟨g0, k, none⟩), .string (bs (ps.getD k [])), .pointer (some ⟨g6, 0, none⟩), .string (bs (ps.getD k [])), .tuple #[], .int .i64 (k + 1 : Nat)] : Array Value).getD q9 Z9), rfl, rfl, M, (by omega)⟩
 omega
end Go.Proofs.Yc

namespace Go.Proofs.Yc
open Go Go.RowKit Go.Proofs.Num
open Tryd renaming func27 → G927, func60 → G960, underlying29 → U929, underlying3 → U93, underlying33 → U933, underlying37 → U937, underlying40 → U940, underlying9 → U99
open Go.Proofs.Num  renaming putT → Z0
open Nat renaming mod_eq_of_lt → Z5
open List renaming set → Z6, take → Z7, drop → Z8
open Go renaming undef → Z9, wp_seq_k → Z10, wp_cond_true → Z11, wp_cond_false → Z12
open Go.Proofs.Num renaming wp_region_seq → Z13, wpL_nil → Z14, no_panic → Z15, wpV_nil → Z19, then_normal → Z22, wpV_callf → Z25, wpV_extract → Z32, wpL_var → Z36
attribute [local irreducible] wpV wpN wpList
open Go.Proofs.Ya
def seedL : List UInt8 := [48, 49, 50, 51, 52, 53, 54, 55, 56, 57, 97, 98, 99, 100, 101, 102, 48, 49, 50, 51, 52, 53, 54, 55, 56, 57, 97, 98, 99, 100, 101, 102]
theorem aF {P : Program} {Q : Exit → Act → World → Prop} {l : List Oper} {fuel : Nat} {listed : Array Bool} {a : Act} {w : World} (i : Nat) {o : Oper} {v : Value} (h : wpAny P .any l.toArray (NoPanic Q) fuel (listed.setIfInBounds i true) (a.put o.dst v) w) (hi : l[i]? = some o := by rfl) (hB : firstB l.toArray listed i = true := by kernel_rfl) (hg : o.guard = none := by rfl) (hv : ∀ W, RunsVal ((execOp a.eval o).run P W) v W) : wpAny P .any l.toArray (NoPanic Q) (fuel + 1) listed a w := any_first i hi hB nopanic_not hg hv h
set_option maxHeartbeats 2000000 in
theorem signed_c {a b : Nat} {r g : List UInt8} {w : World} (ha : a ≤ 4096) (hb : b ≤ 1099511627776) (hr : r.length = 32) :
  Calls Tryd.prog 60 #[.agg ([.int .i64 a, .string (bs r), .int .i64 b, .string (bs g)]).toArray] w fun e w' => e = .returned (.string (bs (sgnL a b r))) ∧ Below w.heap.size w w' := by
 go_enter G960, Tryd.ntmps60
 have M := Mem.start w
 refine Z10 (fun K1 hK1 => Z13 ?_)
 refine Z36 (t := 33) (cs := [.int .i64 a, .string (bs r), .int .i64 b, .string (bs g)]) (by rfl) (fun W => ?_) (fun g3 w4 Sw4 Hg3 Bg3 => ?_)
 ·
  (first | rfl | go_simp)
 replace M := ((M.sees Sw4).addS (N := 4) (cs := [.int .i64 a, .string (bs r), .int .i64 b, .string (bs g)]) (segs := [(0, [.int .i64 a]), (1, [.string (bs r)]), (2, [.int .i64 b]), (3, [.string (bs g)])]) (M.ge Hg3) (M.fresh Hg3) Bg3 rfl ⟨rfl, rfl, rfl, rfl, trivial⟩)
 clear Bg3
 simp only [Z0, Z6]
 refine lAs (v := .string (bs ([]))) ?_
 simp only [Z0, Z6]
 refine lNp (hK1 _ _ ?_)
 refine Z10 (fun K5 hK5 => Z13 ?_)
 refine lCh 7 (fun Lk hLk => ?_)
 refine vGo (v := .pointer (some ⟨g3, 0, none⟩)) ?_
 simp only [Z0, Z6]
 refine vL1 (v := .int .i64 a) (range_one (M.r 0 0 rfl rfl)) (M.lt 0 rfl) U93 ?_
 simp only [Z0, Z6]
 refine wpV_conv (d := .bool) (e := ((a : Nat) : Int)) (by rfl) rfl rfl (run_conv_int U93 U940 ((wrap64N _).trans (congrArg _ (Z5 (by omega))))) ?_
 simp only [Z0, Z6]
 refine Z25 (v := .tuple #[.string (bs (beL 8 a)), .int .i64 0]) (args := #[.int .u64 a, .int .i64 8]) (by rfl) rfl Tryd.func100 (by kernel_rfl) (by kernel_rfl) rfl (fun W hW => big8_c (n := a) (by omega)) ?_
 simp only [Z0, Z6]
 refine vMv (v := .tuple #[.string (bs (beL 8 a)), .int .i64 0]) ?_
 simp only [Z0, Z6]
 refine Z32 (v := .string (bs (beL 8 a))) (by rfl) rfl rfl rfl ?_
 simp only [Z0, Z6]
 refine Z32 (v := .int .i64 0) (by rfl) rfl rfl rfl ?_
 simp only [Z0, Z6]
 refine Z19 (hLk _ (fun w7 Sw7 => ?_))
 simp only [Z7, Z8]
 replace M := M.sees Sw7
 refine lAs (v := .string (bs (beL 8 a))) ?_
 refine lAs (v := .int .i64 0) ?_
 simp only [Z0, Z6]
 refine lNp (hK5 _ _ ?_)
 refine Z10 (fun K8 hK8 => Z13 ?_)
 refine lCh 7 (fun Lk hLk => ?_)
 refine vGo (v := .pointer (some ⟨g3, 2, none⟩)) ?_
 simp only [Z0, Z6]
 refine vL1 (v := .int .i64 b) (range_one (M.r 0 2 rfl rfl)) (M.lt 0 rfl) U93 ?_
 simp only [Z0, Z6]
 refine wpV_conv (d := .bool) (e := ((b : Nat) : Int)) (by rfl) rfl rfl (run_conv_int U93 U940 ((wrap64N _).trans (congrArg _ (Z5 (by omega))))) ?_
 simp only [Z0, Z6]
 refine Z25 (v := .tuple #[.string (bs (beL 8 b)), .int .i64 0]) (args := #[.int .u64 b, .int .i64 8]) (by rfl) rfl Tryd.func100 (by kernel_rfl) (by kernel_rfl) rfl (fun W hW => big8_c (n := b) (by omega)) ?_
 simp only [Z0, Z6]
 refine vMv (v := .tuple #[.string (bs (beL 8 b)), .int .i64 0]) ?_
 simp only [Z0, Z6]
 refine Z32 (v := .string (bs (beL 8 b))) (by rfl) rfl rfl rfl ?_
 simp only [Z0, Z6]
 refine Z32 (v := .int .i64 0) (by rfl) rfl rfl rfl ?_
 simp only [Z0, Z6]
 refine Z19 (hLk _ (fun w10 Sw10 => ?_))
 simp only [Z7, Z8]
 replace M := M.sees Sw10
 refine lAs (v := .string (bs (beL 8 b))) ?_
 refine lAs (v := .int .i64 0) ?_
 simp only [Z0, Z6]
 refine lNp (hK8 _ _ ?_)
 refine Z10 (fun K11 hK11 => Z13 ?_)
 refine lMv (v := .string (bs (beL 8 a))) ?_
 refine lMv (v := .string (bs (beL 8 b))) ?_
 simp only [Z0, Z6]
 refine lCh 2 (fun Lk hLk => ?_)
 refine vGo (v := .pointer (some ⟨g3, 1, none⟩)) ?_
 simp only [Z0, Z6]
 refine vL1 (v := .string (bs r)) (range_one (M.r 0 1 rfl rfl)) (M.lt 0 rfl) U99 ?_
 simp only [Z0, Z6]
 refine Z19 (hLk _ (fun w13 Sw13 => ?_))
 simp only [Z7, Z8]
 replace M := M.sees Sw13
 refine wpL_rowN (vs := [.string (bs headL), .string (bs (beL 8 a)), .string (bs (beL 8 b)), .string (bs r)]) (z := .string { data := #[] }) (bytes := 16) (by rfl) (by rfl) U937 (by kernel_rfl) (by decide) (by kernel_rfl) (fun g14 w15 Sw15 Hg14 Bg14 => ?_)
 replace M := ((M.sees Sw15).add (N := 4) (cs := [.string (bs headL), .string (bs (beL 8 a)), .string (bs (beL 8 b)), .string (bs r)]) (M.ge Hg14) (M.fresh Hg14) Bg14 rfl)
 clear Bg14
 simp only [Z0, Z6]
 refine lCh 4 (fun Lk hLk => ?_)
 refine Z25 (v := .tuple #[.string (bs (sgnL a b r)), .int .i64 0]) (args := #[.slice (some ⟨g14, 0, none⟩) 4 4]) (by rfl) rfl Tryd.func59 (by kernel_rfl) (by kernel_rfl) rfl (fun W hW => (by have h9 := pack_c (ps := [headL, beL 8 a, beL 8 b, r]) (w := W) (by simp) (by rw [packN_sgn a b hr]; decide) (Nat.le_refl _) ((M.sees hW).lt 0 rfl) ((M.sees hW).r 0 0 rfl rfl); exact h9)) ?_
 simp only [Z0, Z6]
 refine vMv (v := .tuple #[.string (bs (sgnL a b r)), .int .i64 0]) ?_
 simp only [Z0, Z6]
 refine Z32 (v := .string (bs (sgnL a b r))) (by rfl) rfl rfl rfl ?_
 simp only [Z0, Z6]
 refine Z32 (v := .int .i64 0) (by rfl) rfl rfl rfl ?_
 simp only [Z0, Z6]
 refine Z19 (hLk _ (fun w16 Sw16 => ?_))
 simp only [Z7, Z8]
 replace M := M.sees Sw16
 refine lAs (v := .string (bs (sgnL a b r))) ?_
 refine lAs (v := .int .i64 0) ?_
 simp only [Z0, Z6]
 refine lNp (hK11 _ _ ?_)
 refine Z10 (fun K17 hK17 => Z13 ?_)
 refine lMv (v := .string (bs (sgnL a b r))) ?_
 refine lAs (v := .string (bs (sgnL a b r))) ?_
 simp only [Z0, Z6]
 refine lNp (hK17 _ _ ?_)
 refine wp_ret ?_
 repeat (first | with_reducible refine then_ret ?_ | with_reducible refine inblock_ret ?_)
 refine bodyPost_ret (v := .string (bs (sgnL a b r))) (res1 rfl (.tmp (by rfl))) rfl ?_
 have BE := M.below
 exact ⟨rfl, BE⟩
set_option maxHeartbeats 2000000 in
theorem Print_ok {a b : Nat} {r g : List UInt8} {w : World} (ha : a ≤ 4096) (hb : b ≤ 1099511627776) (hr : r.length = 32) (hg : g.length = 64) :
  Calls Tryd.prog 21 #[.agg ([.int .i64 a, .string (bs r), .int .i64 b, .string (bs g)]).toArray] w fun e w' => e = .returned (.tuple #[.string (bs (texL a b r g)), .int .i64 0]) ∧ Below w.heap.size w w' := by
 go_enter Tryd.func21, Tryd.ntmps21
 have M := Mem.start w
 refine Z10 (fun K1 hK1 => Z13 ?_)
 refine Z36 (t := 33) (cs := [.int .i64 a, .string (bs r), .int .i64 b, .string (bs g)]) (by rfl) (fun W => ?_) (fun g3 w4 Sw4 Hg3 Bg3 => ?_)
 ·
  (first | rfl | go_simp)
 replace M := ((M.sees Sw4).addS (N := 4) (cs := [.int .i64 a, .string (bs r), .int .i64 b, .string (bs g)]) (segs := [(0, [.int .i64 a]), (1, [.string (bs r)]), (2, [.int .i64 b]), (3, [.string (bs g)])]) (M.ge Hg3) (M.fresh Hg3) Bg3 rfl ⟨rfl, rfl, rfl, rfl, trivial⟩)
 clear Bg3
 simp only [Z0, Z6]
 refine lAs (v := .string (bs ([]))) ?_
 refine lAs (v := .int .i64 0) ?_
 simp only [Z0, Z6]
 refine lNp (hK1 _ _ ?_)
 refine Z10 (fun K5 hK5 => ?_)
 refine Z10 (fun K6 hK6 => Z13 ?_)
 refine lCh 3 (fun Lk hLk => ?_)
 refine vLd (cs := [.int .i64 a] ++ [.string (bs r)] ++ [.int .i64 b] ++ [.string (bs g)]) (range_join (range_join (range_join (M.r 0 0 rfl rfl) (M.r 0 1 rfl rfl) (by simp [flen])) (M.r 0 2 rfl rfl) (by simp [flen])) (M.r 0 3 rfl rfl) (by simp [flen])) (M.lt 0 rfl) U933 info33 ?_
 simp only [Z0, Z6]
 refine Z25 (v := .bool true) (args := #[.agg ([.int .i64 a] ++ [.string (bs r)] ++ [.int .i64 b] ++ [.string (bs g)] : List Value).toArray]) (by rfl) rfl G927 (by kernel_rfl) (by kernel_rfl) rfl (fun W hW => (by have h9 := hright_c (z := ((a : Nat) : Int)) (r := r) (t := ((b : Nat) : Int)) (g := g) (w := W); rw [rightH_of ha hb hr hg] at h9; exact h9)) ?_
 simp only [Z0, Z6]
 refine wpV_not (b := true) (by rfl) rfl rfl ?_
 simp only [Bool.not_true, Bool.not_false]
 simp only [Z0, Z6]
 refine Z19 (hLk _ (fun w8 Sw8 => ?_))
 simp only [Z7, Z8]
 replace M := M.sees Sw8
 refine lNp (hK6 _ _ ?_)
 refine Z12 rfl ?_
 refine wp_skip ?_
 refine hK5 _ _ ?_
 refine Z10 (fun K9 hK9 => ?_)
 refine wp_region_addsF 8 [] [4] [ValRel (.agg ([.int .i64 a] ++ [.string (bs r)] ++ [.int .i64 b] ++ [.string (bs g)] : List Value).toArray), ValRel (.string (bs (sgnL a b r))), ValRel (.pointer (some ⟨g3, 3, none⟩)), ValRel (.string (bs g)), BoxRel w8 (fun gA => .slice (some ⟨gA, 0, none⟩) 2 2) 2 [(0, [.string (bs (sgnL a b r)), .string (bs g)])], ValRel (.tuple #[.string (bs (texL a b r g)), .int .i64 0]), ValRel (.string (bs (texL a b r g))), ValRel (.int .i64 0)] [[], [0], [], [2], [1, 3], [4], [5], [5]] (fun vs => { tmps := #[.agg ([.int .i64 a, .string (bs r), .int .i64 b, .string (bs g)]).toArray, .pointer (some ⟨g3, 0, none⟩), .string (bs ([])), .int .i64 0, .agg ([.int .i64 a] ++ [.string (bs r)] ++ [.int .i64 b] ++ [.string (bs g)] : List Value).toArray, .bool true, .bool false, vs 0, vs 1, vs 2, vs 3, vs 4, vs 5, vs 6, vs 7], defers := [] }) (by kernel_rfl) (by kernel_rfl) (by kernel_rfl) (by kernel_rfl) (.cons keep_val (.cons keep_val (.cons keep_val (.cons keep_val (.cons keep_box (.cons keep_val (.cons keep_val (.cons keep_val AllKeep.nil)))))))) (.free free_val (.free free_val (.free free_val (.free free_val (.free free_box (.free free_val (.free free_val (.free free_val AllLoc.nil)))))))) (.cons own_box AllOwn.nil) (by kernel_rfl) ?_ ?_
 ·
  simp only [Z7]
  refine RulesL.cons (fun vs => { tmps := #[.agg ([.int .i64 a, .string (bs r), .int .i64 b, .string (bs g)]).toArray, .pointer (some ⟨g3, 0, none⟩), .string (bs ([])), .int .i64 0, .agg ([.int .i64 a] ++ [.string (bs r)] ++ [.int .i64 b] ++ [.string (bs g)] : List Value).toArray, .bool true, .bool false, Z9, Z9, Z9, Z9, Z9, Z9, Z9, Z9], defers := [] }) (by kernel_rfl) ?_ ?_
  ·
   intro vs gs W12 SW12 D K9 hK9
   replace M := M.sees SW12
   dsimp only at hK9
   try dsimp only
   refine lCh 1 (fun Lk hLk => ?_)
   refine vLd (cs := [.int .i64 a] ++ [.string (bs r)] ++ [.int .i64 b] ++ [.string (bs g)]) (range_join (range_join (range_join (M.r 0 0 rfl rfl) (M.r 0 1 rfl rfl) (by simp [flen])) (M.r 0 2 rfl rfl) (by simp [flen])) (M.r 0 3 rfl rfl) (by simp [flen])) (M.lt 0 rfl) U933 info33 ?_
   simp only [Z0, Z6]
   refine Z19 (hLk _ (fun w13 Sw13 => ?_))
   simp only [Z7, Z8]
   replace M := M.sees Sw13
   refine Z14 (Z22 ?_)
   have h8 := hK9 (.agg ([.int .i64 a] ++ [.string (bs r)] ++ [.int .i64 b] ++ [.string (bs g)] : List Value).toArray)
   have h9 := h8 0 _ Sw13 rfl (fun h => absurd h (by decide))
   simp only [Z0, Z6] at h9
   exact h9
  refine RulesL.cons (fun vs => { tmps := #[.agg ([.int .i64 a, .string (bs r), .int .i64 b, .string (bs g)]).toArray, .pointer (some ⟨g3, 0, none⟩), .string (bs ([])), .int .i64 0, .agg ([.int .i64 a] ++ [.string (bs r)] ++ [.int .i64 b] ++ [.string (bs g)] : List Value).toArray, .bool true, .bool false, vs 0, Z9, Z9, Z9, Z9, Z9, Z9, Z9], defers := [] }) (by kernel_rfl) ?_ ?_
  ·
   intro vs gs W14 SW14 D K9 hK9
   replace M := M.sees SW14
   obtain ⟨D0, _⟩ := D
   have e0 : vs 0 = .agg ([.int .i64 a] ++ [.string (bs r)] ++ [.int .i64 b] ++ [.string (bs g)] : List Value).toArray := D0
   dsimp only at hK9
   try dsimp only
   rw [e0] at hK9 ⊢
   refine lCh 1 (fun Lk hLk => ?_)
   refine Z25 (v := .string (bs (sgnL a b r))) (args := #[.agg ([.int .i64 a] ++ [.string (bs r)] ++ [.int .i64 b] ++ [.string (bs g)] : List Value).toArray]) (by rfl) rfl G960 (by kernel_rfl) (by kernel_rfl) rfl (fun W hW => (by have h9 := signed_c (a := a) (b := b) (r := r) (g := g) (w := W) (by exact ha) (by exact hb) (by exact hr); exact h9)) ?_
   simp only [Z0, Z6]
   refine Z19 (hLk _ (fun w15 Sw15 => ?_))
   simp only [Z7, Z8]
   replace M := M.sees Sw15
   refine Z14 (Z22 ?_)
   have h8 := hK9 (.string (bs (sgnL a b r)))
   have h9 := h8 0 _ Sw15 rfl (fun h => absurd h (by decide))
   simp only [Z0, Z6] at h9
   exact h9
  refine RulesL.cons (fun vs => { tmps := #[.agg ([.int .i64 a, .string (bs r), .int .i64 b, .string (bs g)]).toArray, .pointer (some ⟨g3, 0, none⟩), .string (bs ([])), .int .i64 0, .agg ([.int .i64 a] ++ [.string (bs r)] ++ [.int .i64 b] ++ [.string (bs g)] : List Value).toArray, .bool true, .bool false, Z9, Z9, Z9, Z9, Z9, Z9, Z9, Z9], defers := [] }) (by kernel_rfl) ?_ ?_
  ·
   intro vs gs W16 SW16 D K9 hK9
   replace M := M.sees SW16
   dsimp only at hK9
   try dsimp only
   refine lCh 1 (fun Lk hLk => ?_)
   refine vGo (v := .pointer (some ⟨g3, 3, none⟩)) ?_
   simp only [Z0, Z6]
   refine Z19 (hLk _ (fun w17 Sw17 => ?_))
   simp only [Z7, Z8]
   replace M := M.sees Sw17
   refine Z14 (Z22 ?_)
   have h8 := hK9 (.pointer (some ⟨g3, 3, none⟩))
   have h9 := h8 0 _ Sw17 rfl (fun h => absurd h (by decide))
   simp only [Z0, Z6] at h9
   exact h9
  refine RulesL.cons (fun vs => { tmps := #[.agg ([.int .i64 a, .string (bs r), .int .i64 b, .string (bs g)]).toArray, .pointer (some ⟨g3, 0, none⟩), .string (bs ([])), .int .i64 0, .agg ([.int .i64 a] ++ [.string (bs r)] ++ [.int .i64 b] ++ [.string (bs g)] : List Value).toArray, .bool true, .bool false, Z9, Z9, vs 2, Z9, Z9, Z9, Z9, Z9], defers := [] }) (by kernel_rfl) ?_ ?_
  ·
   intro vs gs W18 SW18 D K9 hK9
   replace M := M.sees SW18
   obtain ⟨D2, _⟩ := D
   have e2 : vs 2 = .pointer (some ⟨g3, 3, none⟩) := D2
   dsimp only at hK9
   try dsimp only
   rw [e2] at hK9 ⊢
   refine lCh 1 (fun Lk hLk => ?_)
   refine vL1 (v := .string (bs g)) (range_one (M.r 0 3 rfl rfl)) (M.lt 0 rfl) U99 ?_
   simp only [Z0, Z6]
   refine Z19 (hLk _ (fun w19 Sw19 => ?_))
   simp only [Z7, Z8]
   replace M := M.sees Sw19
   refine Z14 (Z22 ?_)
   have h8 := hK9 (.string (bs g))
   have h9 := h8 0 _ Sw19 rfl (fun h => absurd h (by decide))
   simp only [Z0, Z6] at h9
   exact h9
  refine RulesL.cons (fun vs => { tmps := #[.agg ([.int .i64 a, .string (bs r), .int .i64 b, .string (bs g)]).toArray, .pointer (some ⟨g3, 0, none⟩), .string (bs ([])), .int .i64 0, .agg ([.int .i64 a] ++ [.string (bs r)] ++ [.int .i64 b] ++ [.string (bs g)] : List Value).toArray, .bool true, .bool false, Z9, vs 1, Z9, vs 3, Z9, Z9, Z9, Z9], defers := [] }) (by kernel_rfl) ?_ ?_
  ·
   intro vs gs W20 SW20 D K9 hK9
   replace M := M.sees SW20
   have Rg3_0 := M.r 0 0 rfl rfl
   have Rg3_1 := M.r 0 1 rfl rfl
   have Rg3_2 := M.r 0 2 rfl rfl
   have Rg3_3 := M.r 0 3 rfl rfl
   have Lg3 := M.lt 0 rfl
   have BB := M.below
   replace M := Mem.start W20
   obtain ⟨D1, D3, _⟩ := D
   have e1 : vs 1 = .string (bs (sgnL a b r)) := D1
   have e3 : vs 3 = .string (bs g) := D3
   dsimp only at hK9
   try dsimp only
   rw [e1, e3] at hK9 ⊢
   refine wpL_rowN (vs := [.string (bs (sgnL a b r)), .string (bs g)]) (z := .string { data := #[] }) (bytes := 16) (by rfl) (by rfl) U937 (by kernel_rfl) (by decide) (by kernel_rfl) (fun g21 w22 Sw22 Hg21 Bg21 => ?_)
   replace M := ((M.sees Sw22).add (N := 2) (cs := [.string (bs (sgnL a b r)), .string (bs g)]) (M.ge Hg21) (M.fresh Hg21) Bg21 rfl)
   clear Bg21
   simp only [Z0, Z6]
   refine Z14 (Z22 ?_)
   have h8 := hK9 (.slice (some ⟨g21, 0, none⟩) 2 2)
   have h9 := h8 g21 _ M.seesAll ⟨rfl, (M.ok _ (.head _)).up SW20⟩ (fun _ => (M.ok _ (.head _)).ge)
   simp only [Z0, Z6] at h9
   exact h9
  refine RulesL.cons (fun vs => { tmps := #[.agg ([.int .i64 a, .string (bs r), .int .i64 b, .string (bs g)]).toArray, .pointer (some ⟨g3, 0, none⟩), .string (bs ([])), .int .i64 0, .agg ([.int .i64 a] ++ [.string (bs r)] ++ [.int .i64 b] ++ [.string (bs g)] : List Value).toArray, .bool true, .bool false, Z9, Z9, Z9, Z9, vs 4, Z9, Z9, Z9], defers := [] }) (by kernel_rfl) ?_ ?_
  ·
   intro vs gs W23 SW23 D K9 hK9
   replace M := M.sees SW23
   have Rg3_0 := M.r 0 0 rfl rfl
   have Rg3_1 := M.r 0 1 rfl rfl
   have Rg3_2 := M.r 0 2 rfl rfl
   have Rg3_3 := M.r 0 3 rfl rfl
   have Lg3 := M.lt 0 rfl
   have BB := M.below
   replace M := Mem.start W23
   obtain ⟨D4, _⟩ := D
   obtain ⟨e4, Og24⟩ := D4
   generalize gs 4 = g24 at *
   replace e4 : vs 4 = .slice (some ⟨g24, 0, none⟩) 2 2 := e4
   have Rg24_0 := Og24.range (0, [.string (bs (sgnL a b r)), .string (bs g)]) (by simp only [List.mem_cons, true_or, or_true])
   have Lg24 := Og24.lt
   dsimp only at hK9
   try dsimp only
   rw [e4] at hK9 ⊢
   refine lCh 1 (fun Lk hLk => ?_)
   refine Z25 (v := .tuple #[.string (bs (texL a b r g)), .int .i64 0]) (args := #[.slice (some ⟨g24, 0, none⟩) 2 2]) (by rfl) rfl Tryd.func59 (by kernel_rfl) (by kernel_rfl) rfl (fun W hW => (by have h9 := pack_c (ps := [sgnL a b r, g]) (w := W) (by simp) (by rw [packN_tex a b hr hg]; decide) (Nat.le_refl _) ((M.sees hW).oldL Lg24) ((M.sees hW).oldR Rg24_0 Lg24); exact h9)) ?_
   simp only [Z0, Z6]
   refine Z19 (hLk _ (fun w25 Sw25 => ?_))
   simp only [Z7, Z8]
   replace M := M.sees Sw25
   refine Z14 (Z22 ?_)
   have h8 := hK9 (.tuple #[.string (bs (texL a b r g)), .int .i64 0])
   have h9 := h8 0 _ M.seesAll rfl (fun h => absurd h (by decide))
   simp only [Z0, Z6] at h9
   exact h9
  refine RulesL.cons (fun vs => { tmps := #[.agg ([.int .i64 a, .string (bs r), .int .i64 b, .string (bs g)]).toArray, .pointer (some ⟨g3, 0, none⟩), .string (bs ([])), .int .i64 0, .agg ([.int .i64 a] ++ [.string (bs r)] ++ [.int .i64 b] ++ [.string (bs g)] : List Value).toArray, .bool true, .bool false, Z9, Z9, Z9, Z9, Z9, vs 5, Z9, Z9], defers := [] }) (by kernel_rfl) ?_ ?_
  ·
   intro vs gs W26 SW26 D K9 hK9
   replace M := M.sees SW26
   obtain ⟨D5, _⟩ := D
   have e5 : vs 5 = .tuple #[.string (bs (texL a b r g)), .int .i64 0] := D5
   dsimp only at hK9
   try dsimp only
   rw [e5] at hK9 ⊢
   refine lCh 1 (fun Lk hLk => ?_)
   refine Z32 (v := .string (bs (texL a b r g))) (by rfl) rfl rfl rfl ?_
   simp only [Z0, Z6]
   refine Z19 (hLk _ (fun w27 Sw27 => ?_))
   simp only [Z7, Z8]
   replace M := M.sees Sw27
   refine Z14 (Z22 ?_)
   have h8 := hK9 (.string (bs (texL a b r g)))
   have h9 := h8 0 _ Sw27 rfl (fun h => absurd h (by decide))
   simp only [Z0, Z6] at h9
   exact h9
  refine RulesL.cons (fun vs => { tmps := #[.agg ([.int .i64 a, .string (bs r), .int .i64 b, .string (bs g)]).toArray, .pointer (some ⟨g3, 0, none⟩), .string (bs ([])), .int .i64 0, .agg ([.int .i64 a] ++ [.string (bs r)] ++ [.int .i64 b] ++ [.string (bs g)] : List Value).toArray, .bool true, .bool false, Z9, Z9, Z9, Z9, Z9, vs 5, Z9, Z9], defers := [] }) (by kernel_rfl) ?_ ?_
  ·
   intro vs gs W28 SW28 D K9 hK9
   replace M := M.sees SW28
   obtain ⟨D5, _⟩ := D
   have e5 : vs 5 = .tuple #[.string (bs (texL a b r g)), .int .i64 0] := D5
   dsimp only at hK9
   try dsimp only
   rw [e5] at hK9 ⊢
   refine lCh 1 (fun Lk hLk => ?_)
   refine Z32 (v := .int .i64 0) (by rfl) rfl rfl rfl ?_
   simp only [Z0, Z6]
   refine Z19 (hLk _ (fun w29 Sw29 => ?_))
   simp only [Z7, Z8]
   replace M := M.sees Sw29
   refine Z14 (Z22 ?_)
   have h8 := hK9 (.int .i64 0)
   have h9 := h8 0 _ Sw29 rfl (fun h => absurd h (by decide))
   simp only [Z0, Z6] at h9
   exact h9
  exact RulesL.nil
 intro vs gs W30 SW30 D A9
 obtain ⟨D0, D1, D2, D3, D4, D5, D6, D7, _⟩ := (show DepRel _ vs gs W30 [0, 1, 2, 3, 4, 5, 6, 7] from D)
 clear A9 D
 have e0 : vs 0 = .agg ([.int .i64 a] ++ [.string (bs r)] ++ [.int .i64 b] ++ [.string (bs g)] : List Value).toArray := D0
 have e1 : vs 1 = .string (bs (sgnL a b r)) := D1
 have e2 : vs 2 = .pointer (some ⟨g3, 3, none⟩) := D2
 have e3 : vs 3 = .string (bs g) := D3
 obtain ⟨e4, Og31⟩ := D4
 generalize gs 4 = g31 at *
 replace e4 : vs 4 = .slice (some ⟨g31, 0, none⟩) 2 2 := e4
 have e5 : vs 5 = .tuple #[.string (bs (texL a b r g)), .int .i64 0] := D5
 have e6 : vs 6 = .string (bs (texL a b r g)) := D6
 have e7 : vs 7 = .int .i64 0 := D7
 replace M := M.addOks SW30 [⟨g31, 2, [(0, [.string (bs (sgnL a b r)), .string (bs g)])]⟩] (List.forall_mem_cons.2 ⟨Og31, (fun _ h => nomatch h)⟩) (.cons (fun _ h => nomatch h) .nil)
 simp only [List.cons_append, List.nil_append] at M
 try dsimp only
 simp only [e0, e1, e2, e3, e4, e5, e6, e7, Z8]
 refine lAs (v := .string (bs (texL a b r g))) ?_
 refine lAs (v := .int .i64 0) ?_
 simp only [Z0, Z6]
 refine lNp (hK9 _ _ ?_)
 refine wp_ret ?_
 repeat (first | with_reducible refine then_ret ?_ | with_reducible refine inblock_ret ?_)
 refine bodyPost_ret (v := .tuple #[.string (bs (texL a b r g)), .int .i64 0]) (res2 rfl (.tmp (by rfl)) (.tmp (by rfl))) rfl ?_
 have BE := M.below
 exact ⟨rfl, BE⟩
set_option maxHeartbeats 1000000 in
theorem Print_no {z t : Int} {r g : List UInt8} {w : World} (h0 : rightH z r t g = false) :
  Calls Tryd.prog 21 #[.agg ([.int .i64 z, .string (bs r), .int .i64 t, .string (bs g)]).toArray] w fun e w' => e = .returned (.tuple #[.string (bs []), .int .i64 1]) ∧ Below w.heap.size w w' := by
 go_enter Tryd.func21, Tryd.ntmps21
 have M := Mem.start w
 refine Z10 (fun K1 hK1 => Z13 ?_)
 refine Z36 (t := 33) (cs := [.int .i64 z, .string (bs r), .int .i64 t, .string (bs g)]) (by rfl) (fun W => ?_) (fun g3 w4 Sw4 Hg3 Bg3 => ?_)
 ·
  (first | rfl | go_simp)
 replace M := ((M.sees Sw4).addS (N := 4) (cs := [.int .i64 z, .string (bs r), .int .i64 t, .string (bs g)]) (segs := [(0, [.int .i64 z]), (1, [.string (bs r)]), (2, [.int .i64 t]), (3, [.string (bs g)])]) (M.ge Hg3) (M.fresh Hg3) Bg3 rfl ⟨rfl, rfl, rfl, rfl, trivial⟩)
 clear Bg3
 simp only [Z0, Z6]
 refine lAs (v := .string (bs ([]))) ?_
 refine lAs (v := .int .i64 0) ?_
 simp only [Z0, Z6]
 refine lNp (hK1 _ _ ?_)
 refine Z10 (fun K5 hK5 => ?_)
 refine Z10 (fun K6 hK6 => Z13 ?_)
 refine lCh 3 (fun Lk hLk => ?_)
 refine vLd (cs := [.int .i64 z] ++ [.string (bs r)] ++ [.int .i64 t] ++ [.string (bs g)]) (range_join (range_join (range_join (M.r 0 0 rfl rfl) (M.r 0 1 rfl rfl) (by simp [flen])) (M.r 0 2 rfl rfl) (by simp [flen])) (M.r 0 3 rfl rfl) (by simp [flen])) (M.lt 0 rfl) U933 info33 ?_
 simp only [Z0, Z6]
 refine Z25 (v := .bool false) (args := #[.agg ([.int .i64 z] ++ [.string (bs r)] ++ [.int .i64 t] ++ [.string (bs g)] : List Value).toArray]) (by rfl) rfl G927 (by kernel_rfl) (by kernel_rfl) rfl (fun W hW => (by have h9 := hright_c (z := z) (r := r) (t := t) (g := g) (w := W); rw [h0] at h9; exact h9)) ?_
 simp only [Z0, Z6]
 refine wpV_not (b := false) (by rfl) rfl rfl ?_
 simp only [Bool.not_true, Bool.not_false]
 simp only [Z0, Z6]
 refine Z19 (hLk _ (fun w8 Sw8 => ?_))
 simp only [Z7, Z8]
 replace M := M.sees Sw8
 refine lNp (hK6 _ _ ?_)
 refine Z11 rfl ?_
 refine Z10 (fun K9 hK9 => Z13 ?_)
 refine lAs (v := .string (bs ([]))) ?_
 refine lAs (v := .int .i64 1) ?_
 simp only [Z0, Z6]
 refine lNp (hK9 _ _ ?_)
 refine wp_ret ?_
 repeat (first | with_reducible refine then_ret ?_ | with_reducible refine inblock_ret ?_)
 refine bodyPost_ret (v := .tuple #[.string (bs ([])), .int .i64 1]) (res2 rfl (.tmp (by rfl)) (.tmp (by rfl))) rfl ?_
 have BE := M.below
 exact ⟨rfl, BE⟩
set_option maxHeartbeats 2000000 in
theorem hSign_ok {l r : List UInt8} {a b : Nat} {w : World} (ha : a ≤ 4096) (hb : b ≤ 1099511627776) (hr : r.length = 32) (hl : l.length = 32) (L2 : 2 < w.heap.size) (R2_0 : w.rangeAt 2 0 kcellsq) :
  Calls Tryd.prog 31 #[.string (bs l), .int .i64 a, .string (bs r), .int .i64 b] w fun e w' => e = .returned (.tuple #[.agg ([.int .i64 a, .string (bs r), .int .i64 b, .string (bs (edS l (sgnL a b r)))]).toArray, .int .i64 0]) ∧ Below w.heap.size w w' := by
 go_enter Tryd.func31, Tryd.ntmps31
 have M := Mem.start w
 refine Z10 (fun K1 hK1 => Z13 ?_)
 refine Z36 (t := 33) (cs := [.int .i64 0, .string { data := #[] }, .int .i64 0, .string { data := #[] }]) (by rfl) (fun W => ?_) (fun g3 w4 Sw4 Hg3 Bg3 => ?_)
 ·
  go_simp
 replace M := ((M.sees Sw4).add (N := 4) (cs := [.int .i64 0, .string { data := #[] }, .int .i64 0, .string { data := #[] }]) (M.ge Hg3) (M.fresh Hg3) Bg3 rfl)
 clear Bg3
 simp only [Z0, Z6]
 refine lAs (v := .int .i64 0) ?_
 simp only [Z0, Z6]
 refine lNp (hK1 _ _ ?_)
 refine Z10 (fun K5 hK5 => Z13 ?_)
 refine lMv (v := .int .i64 a) ?_
 refine lMv (v := .string (bs r)) ?_
 refine lMv (v := .int .i64 b) ?_
 simp only [Z0, Z6]
 refine wpL_make (n := 64) (z := .int .u8 0) (bytes := 1) (by rfl) (by rfl) (by rfl) (by rfl) U929 (by kernel_rfl) rfl (by decide) (by decide) (fun g7 w8 Sw8 Hg7 Bg7 => ?_)
 replace M := ((M.sees Sw8).add (N := 64) (cs := List.replicate 64 (.int .u8 0)) (M.ge Hg7) (M.fresh Hg7) Bg7 (by simp [flen]))
 clear Bg7
 rw [show List.replicate 64 (Value.int .u8 0) = bcells (List.replicate 64 0) from rfl] at M
 simp only [Z0, Z6]
 refine lCh 2 (fun Lk hLk => ?_)
 refine wpV_b2s (l := (List.replicate 64 0)) (by rfl) rfl rfl (List.length_replicate ..).symm U929 Tryd.underlying5 U99 (M.r 0 0 rfl rfl) (M.lt 0 rfl) ?_
 simp only [Z0, Z6]
 refine vGk (v := .agg ([.int .i64 a, .string (bs r), .int .i64 b, .string (bs (List.replicate 64 0))]).toArray) ?_
 simp only [Z0, Z6]
 refine Z19 (hLk _ (fun w9 Sw9 => ?_))
 simp only [Z7, Z8]
 replace M := M.sees Sw9
 refine Z36 (t := 33) (cs := [.int .i64 0, .string { data := #[] }, .int .i64 0, .string { data := #[] }]) (by rfl) (fun W => ?_) (fun g10 w11 Sw11 Hg10 Bg10 => ?_)
 ·
  go_simp
 replace M := ((M.sees Sw11).add (N := 4) (cs := [.int .i64 0, .string { data := #[] }, .int .i64 0, .string { data := #[] }]) (M.ge Hg10) (M.fresh Hg10) Bg10 rfl)
 clear Bg10
 simp only [Z0, Z6]
 refine lSt (g := g10) (off := 0) (n := 4) (cs := [.int .i64 a, .string (bs r), .int .i64 b, .string (bs (List.replicate 64 0))]) (M.t 0 rfl) (by simp [flen]) info33 (by simp [fone, Value.oneCell']) (fun w12 P R T => ?_)
 replace M := M.putS 0 0 rfl P R T rfl ⟨.inl rfl, trivial⟩
 simp only [Z6] at M
 refine lNp (hK5 _ _ ?_)
 refine Z10 (fun K13 hK13 => ?_)
 refine Z10 (fun K14 hK14 => Z13 ?_)
 refine lCh 3 (fun Lk hLk => ?_)
 refine vLd (cs := [.int .i64 a, .string (bs r), .int .i64 b, .string (bs (List.replicate 64 0))]) (M.r 0 0 rfl rfl) (M.lt 0 rfl) U933 info33 ?_
 simp only [Z0, Z6]
 refine Z25 (v := .bool true) (args := #[.agg ([.int .i64 a, .string (bs r), .int .i64 b, .string (bs (List.replicate 64 0))]).toArray]) (by rfl) rfl G927 (by kernel_rfl) (by kernel_rfl) rfl (fun W hW => (by have h9 := hright_c (z := ((a : Nat) : Int)) (r := r) (t := ((b : Nat) : Int)) (g := List.replicate 64 0) (w := W); rw [rightH_of ha hb hr (List.length_replicate ..)] at h9; exact h9)) ?_
 simp only [Z0, Z6]
 refine wpV_not (b := true) (by rfl) rfl rfl ?_
 simp only [Bool.not_true, Bool.not_false]
 simp only [Z0, Z6]
 refine Z19 (hLk _ (fun w16 Sw16 => ?_))
 simp only [Z7, Z8]
 replace M := M.sees Sw16
 refine lNp (hK14 _ _ ?_)
 refine Z12 rfl ?_
 refine wp_skip ?_
 refine hK13 _ _ ?_
 refine Z10 (fun K17 hK17 => Z13 ?_)
 refine lMv (v := .string (bs l)) ?_
 simp only [Z0, Z6]
 refine lCh 6 (fun Lk hLk => ?_)
 refine vLd (cs := [.int .i64 a, .string (bs r), .int .i64 b, .string (bs (List.replicate 64 0))]) (M.r 0 0 rfl rfl) (M.lt 0 rfl) U933 info33 ?_
 simp only [Z0, Z6]
 refine Z25 (v := .string (bs (sgnL a b r))) (args := #[.agg ([.int .i64 a, .string (bs r), .int .i64 b, .string (bs (List.replicate 64 0))]).toArray]) (by rfl) rfl G960 (by kernel_rfl) (by kernel_rfl) rfl (fun W hW => (by have h9 := signed_c (a := a) (b := b) (r := r) (g := List.replicate 64 0) (w := W) (by exact ha) (by exact hb) (by exact hr); exact h9)) ?_
 simp only [Z0, Z6]
 refine Z25 (v := .tuple #[.string (bs (edS l (sgnL a b r))), .int .i64 0]) (args := #[.string (bs l), .string (bs (sgnL a b r))]) (by rfl) rfl Tryd.func17 (by kernel_rfl) (by kernel_rfl) rfl (fun W hW => (Sign_ok hl (by rw [sgnL_len a b hr]; decide) ((M.sees hW).oldL L2) ((M.sees hW).oldR R2_0 L2))) ?_
 simp only [Z0, Z6]
 refine vMv (v := .tuple #[.string (bs (edS l (sgnL a b r))), .int .i64 0]) ?_
 simp only [Z0, Z6]
 refine Z32 (v := .string (bs (edS l (sgnL a b r)))) (by rfl) rfl rfl rfl ?_
 simp only [Z0, Z6]
 refine Z32 (v := .int .i64 0) (by rfl) rfl rfl rfl ?_
 simp only [Z0, Z6]
 refine Z19 (hLk _ (fun w19 Sw19 => ?_))
 simp only [Z7, Z8]
 replace M := M.sees Sw19
 refine lAs (v := .string (bs (edS l (sgnL a b r)))) ?_
 refine lAs (v := .int .i64 0) ?_
 simp only [Z0, Z6]
 refine lNp (hK17 _ _ ?_)
 refine Z10 (fun K20 hK20 => ?_)
 refine Z10 (fun K21 hK21 => Z13 ?_)
 refine lMv (v := .int .i64 0) ?_
 simp only [Z0, Z6]
 refine lCh 1 (fun Lk hLk => ?_)
 refine vBn (v := .bool false) (hr := fun W => run_neq _ _ _ _ W) ?_
 simp only [Z0, Z6]
 refine Z19 (hLk _ (fun w23 Sw23 => ?_))
 simp only [Z7, Z8]
 replace M := M.sees Sw23
 refine lNp (hK21 _ _ ?_)
 refine Z12 rfl ?_
 refine wp_skip ?_
 refine hK20 _ _ ?_
 refine Z10 (fun K24 hK24 => Z13 ?_)
 refine lMv (v := .string (bs (edS l (sgnL a b r)))) ?_
 simp only [Z0, Z6]
 refine lCh 1 (fun Lk hLk => ?_)
 refine vGo (v := .pointer (some ⟨g10, 3, none⟩)) ?_
 simp only [Z0, Z6]
 refine Z19 (hLk _ (fun w26 Sw26 => ?_))
 simp only [Z7, Z8]
 replace M := M.sees Sw26
 refine lS1 (g := g10) (off := 3) (n := 4) (v := .string (bs (edS l (sgnL a b r)))) (M.t 0 rfl) (by decide) info9 rfl (fun w27 P R T => ?_)
 replace M := M.put1 (j := 3) 0 rfl P R T rfl
 simp only [Z6] at M
 refine lNp (hK24 _ _ ?_)
 refine Z10 (fun K28 hK28 => Z13 ?_)
 refine lCh 1 (fun Lk hLk => ?_)
 refine vLd (cs := [.int .i64 a, .string (bs r), .int .i64 b, .string (bs (edS l (sgnL a b r)))]) (M.r 0 0 rfl rfl) (M.lt 0 rfl) U933 info33 ?_
 simp only [Z0, Z6]
 refine Z19 (hLk _ (fun w30 Sw30 => ?_))
 simp only [Z7, Z8]
 replace M := M.sees Sw30
 refine lSt (g := g3) (off := 0) (n := 4) (cs := [.int .i64 a, .string (bs r), .int .i64 b, .string (bs (edS l (sgnL a b r)))]) (M.t 2 rfl) (by simp [flen]) info33 (by simp [fone, Value.oneCell']) (fun w31 P R T => ?_)
 replace M := M.putS 2 0 rfl P R T rfl ⟨.inl rfl, trivial⟩
 simp only [Z6] at M
 refine lAs (v := .int .i64 0) ?_
 simp only [Z0, Z6]
 refine lNp (hK28 _ _ ?_)
 refine wp_ret ?_
 repeat (first | with_reducible refine then_ret ?_ | with_reducible refine inblock_ret ?_)
 refine bodyPost_ret (v := .tuple #[.agg ([.int .i64 a, .string (bs r), .int .i64 b, .string (bs (edS l (sgnL a b r)))]).toArray, .int .i64 0]) (res2 rfl (.cell (by rfl) (run_loadVar_mid _ _ _ _ ([.int .i64 a, .string (bs r), .int .i64 b, .string (bs (edS l (sgnL a b r)))]) _ (M.r 2 0 rfl rfl) U933 rfl info33)) (.tmp (by rfl))) rfl ?_
 have BE := M.below
 exact ⟨rfl, BE⟩
set_option maxHeartbeats 2000000 in
theorem few10_c {z t : Int} {r g : List UInt8} {w : World}  :
  Calls Tryd.prog 20 #[.agg ([.int .i64 z, .string (bs r), .int .i64 t, .string (bs g)]).toArray] w fun e w' => e = .returned (.agg ([.int .i64 z, .string (bs (cut r 40)), .int .i64 t, .string (bs (cut g 70))]).toArray) ∧ Below w.heap.size w w' := by
 go_enter Tryd.func20, Tryd.ntmps20
 have M := Mem.start w
 refine Z10 (fun K1 hK1 => Z13 ?_)
 refine Z36 (t := 33) (cs := [.int .i64 z, .string (bs r), .int .i64 t, .string (bs g)]) (by rfl) (fun W => ?_) (fun g3 w4 Sw4 Hg3 Bg3 => ?_)
 ·
  (first | rfl | go_simp)
 replace M := ((M.sees Sw4).addS (N := 4) (cs := [.int .i64 z, .string (bs r), .int .i64 t, .string (bs g)]) (segs := [(0, [.int .i64 z]), (1, [.string (bs r)]), (2, [.int .i64 t]), (3, [.string (bs g)])]) (M.ge Hg3) (M.fresh Hg3) Bg3 rfl ⟨rfl, rfl, rfl, rfl, trivial⟩)
 clear Bg3
 simp only [Z0, Z6]
 refine Z36 (t := 33) (cs := [.int .i64 0, .string { data := #[] }, .int .i64 0, .string { data := #[] }]) (by rfl) (fun W => ?_) (fun g5 w6 Sw6 Hg5 Bg5 => ?_)
 ·
  go_simp
 replace M := ((M.sees Sw6).add (N := 4) (cs := [.int .i64 0, .string { data := #[] }, .int .i64 0, .string { data := #[] }]) (M.ge Hg5) (M.fresh Hg5) Bg5 rfl)
 clear Bg5
 simp only [Z0, Z6]
 refine lNp (hK1 _ _ ?_)
 refine Z10 (fun K7 hK7 => ?_)
 refine wp_region_treeN (by kernel_rfl) (fun w9 Sw9 => ?_)
 replace M := M.sees Sw9
 refine aF 0 (v := .pointer (some ⟨g3, 1, none⟩)) (hv := fun W => by (go_simp; exact rfl)) ?_
 simp only [Z0, Z6]
 refine aF 2 (v := .pointer (some ⟨g3, 1, none⟩)) (hv := fun W => by (go_simp; exact rfl)) ?_
 simp only [Z0, Z6]
 refine aF 7 (v := .pointer (some ⟨g3, 3, none⟩)) (hv := fun W => by (go_simp; exact rfl)) ?_
 simp only [Z0, Z6]
 refine aF 9 (v := .pointer (some ⟨g3, 3, none⟩)) (hv := fun W => by (go_simp; exact rfl)) ?_
 simp only [Z0, Z6]
 refine any_hub 4 #[true, true, true, true, true, true, true, true, true, true, true, true, true, true, false, false, false, false] { tmps := #[.agg ([.int .i64 z, .string (bs r), .int .i64 t, .string (bs g)]).toArray, .pointer (some ⟨g3, 0, none⟩), .pointer (some ⟨g5, 0, none⟩), .pointer (some ⟨g3, 1, none⟩), .string (bs r), .pointer (some ⟨g3, 1, none⟩), .string (bs r), .int .i64 r.length, .int .i64 (min r.length 40 : Nat), .string (bs (cut r 40)), .pointer (some ⟨g3, 3, none⟩), .string (bs g), .pointer (some ⟨g3, 3, none⟩), .string (bs g), .int .i64 g.length, .int .i64 (min g.length 70 : Nat), .string (bs (cut g 70)), Z9, Z9, Z9], defers := [] } (fun HK => ?_) ?_
 ·
  refine any_step [1, 3, 8, 10] (by kernel_rfl) rfl (any_two ?_ (any_two ?_ (any_two ?_ (any_one ?_))))
  ·
   refine any_load 1 (v := .string (bs r)) (range_one (M.r 1 1 rfl rfl)) U99 ?_
   simp only [Z0, Z6]
   refine any_step [3, 8, 10] (by kernel_rfl) rfl (any_two ?_ (any_two ?_ (any_one ?_)))
   ·
    refine any_load 3 (v := .string (bs r)) (range_one (M.r 1 1 rfl rfl)) U99 ?_
    simp only [Z0, Z6]
    refine aF 4 (v := .int .i64 r.length) (hv := by exact yl_lenS rfl rfl rfl U99) ?_
    simp only [Z0, Z6]
    refine aF 5 (v := .int .i64 (min r.length 40 : Nat)) (hv := by exact yl_min (n := r.length) (m := 40) rfl rfl rfl) ?_
    simp only [Z0, Z6]
    refine aF 6 (v := .string (bs (cut r 40))) (hv := by exact yl_cut (l := r) (m := 40) rfl rfl rfl U99) ?_
    simp only [Z0, Z6]
    refine any_step [8, 10] (by kernel_rfl) rfl (any_two ?_ (any_one ?_))
    ·
     refine any_load 8 (v := .string (bs g)) (range_one (M.r 1 3 rfl rfl)) U99 ?_
     simp only [Z0, Z6]
     refine any_step [10] (by kernel_rfl) rfl (any_one ?_)
     refine any_load 10 (v := .string (bs g)) (range_one (M.r 1 3 rfl rfl)) U99 ?_
     simp only [Z0, Z6]
     refine aF 11 (v := .int .i64 g.length) (hv := by exact yl_lenS rfl rfl rfl U99) ?_
     simp only [Z0, Z6]
     refine aF 12 (v := .int .i64 (min g.length 70 : Nat)) (hv := by exact yl_min (n := g.length) (m := 70) rfl rfl rfl) ?_
     simp only [Z0, Z6]
     refine aF 13 (v := .string (bs (cut g 70))) (hv := by exact yl_cut (l := g) (m := 70) rfl rfl rfl U99) ?_
     simp only [Z0, Z6]
     exact any_listed (by kernel_rfl) HK
    refine any_load 10 (v := .string (bs g)) (range_one (M.r 1 3 rfl rfl)) U99 ?_
    simp only [Z0, Z6]
    refine aF 11 (v := .int .i64 g.length) (hv := by exact yl_lenS rfl rfl rfl U99) ?_
    simp only [Z0, Z6]
    refine aF 12 (v := .int .i64 (min g.length 70 : Nat)) (hv := by exact yl_min (n := g.length) (m := 70) rfl rfl rfl) ?_
    simp only [Z0, Z6]
    refine any_step [8] (by kernel_rfl) rfl (any_one ?_)
    refine any_load 8 (v := .string (bs g)) (range_one (M.r 1 3 rfl rfl)) U99 ?_
    simp only [Z0, Z6]
    refine aF 13 (v := .string (bs (cut g 70))) (hv := by exact yl_cut (l := g) (m := 70) rfl rfl rfl U99) ?_
    simp only [Z0, Z6]
    exact any_listed (by kernel_rfl) HK
   ·
    refine any_load 8 (v := .string (bs g)) (range_one (M.r 1 3 rfl rfl)) U99 ?_
    simp only [Z0, Z6]
    refine any_step [3, 10] (by kernel_rfl) rfl (any_two ?_ (any_one ?_))
    ·
     refine any_load 3 (v := .string (bs r)) (range_one (M.r 1 1 rfl rfl)) U99 ?_
     simp only [Z0, Z6]
     refine aF 4 (v := .int .i64 r.length) (hv := by exact yl_lenS rfl rfl rfl U99) ?_
     simp only [Z0, Z6]
     refine aF 5 (v := .int .i64 (min r.length 40 : Nat)) (hv := by exact yl_min (n := r.length) (m := 40) rfl rfl rfl) ?_
     simp only [Z0, Z6]
     refine aF 6 (v := .string (bs (cut r 40))) (hv := by exact yl_cut (l := r) (m := 40) rfl rfl rfl U99) ?_
     simp only [Z0, Z6]
     refine any_step [10] (by kernel_rfl) rfl (any_one ?_)
     refine any_load 10 (v := .string (bs g)) (range_one (M.r 1 3 rfl rfl)) U99 ?_
     simp only [Z0, Z6]
     refine aF 11 (v := .int .i64 g.length) (hv := by exact yl_lenS rfl rfl rfl U99) ?_
     simp only [Z0, Z6]
     refine aF 12 (v := .int .i64 (min g.length 70 : Nat)) (hv := by exact yl_min (n := g.length) (m := 70) rfl rfl rfl) ?_
     simp only [Z0, Z6]
     refine aF 13 (v := .string (bs (cut g 70))) (hv := by exact yl_cut (l := g) (m := 70) rfl rfl rfl U99) ?_
     simp only [Z0, Z6]
     exact any_listed (by kernel_rfl) HK
    refine any_load 10 (v := .string (bs g)) (range_one (M.r 1 3 rfl rfl)) U99 ?_
    simp only [Z0, Z6]
    refine aF 11 (v := .int .i64 g.length) (hv := by exact yl_lenS rfl rfl rfl U99) ?_
    simp only [Z0, Z6]
    refine aF 12 (v := .int .i64 (min g.length 70 : Nat)) (hv := by exact yl_min (n := g.length) (m := 70) rfl rfl rfl) ?_
    simp only [Z0, Z6]
    refine aF 13 (v := .string (bs (cut g 70))) (hv := by exact yl_cut (l := g) (m := 70) rfl rfl rfl U99) ?_
    simp only [Z0, Z6]
    refine any_step [3] (by kernel_rfl) rfl (any_one ?_)
    refine any_load 3 (v := .string (bs r)) (range_one (M.r 1 1 rfl rfl)) U99 ?_
    simp only [Z0, Z6]
    refine aF 4 (v := .int .i64 r.length) (hv := by exact yl_lenS rfl rfl rfl U99) ?_
    simp only [Z0, Z6]
    refine aF 5 (v := .int .i64 (min r.length 40 : Nat)) (hv := by exact yl_min (n := r.length) (m := 40) rfl rfl rfl) ?_
    simp only [Z0, Z6]
    refine aF 6 (v := .string (bs (cut r 40))) (hv := by exact yl_cut (l := r) (m := 40) rfl rfl rfl U99) ?_
    simp only [Z0, Z6]
    exact any_listed (by kernel_rfl) HK
   refine any_load 10 (v := .string (bs g)) (range_one (M.r 1 3 rfl rfl)) U99 ?_
   simp only [Z0, Z6]
   refine aF 11 (v := .int .i64 g.length) (hv := by exact yl_lenS rfl rfl rfl U99) ?_
   simp only [Z0, Z6]
   refine aF 12 (v := .int .i64 (min g.length 70 : Nat)) (hv := by exact yl_min (n := g.length) (m := 70) rfl rfl rfl) ?_
   simp only [Z0, Z6]
   refine any_step [3, 8] (by kernel_rfl) rfl (any_two ?_ (any_one ?_))
   ·
    refine any_load 3 (v := .string (bs r)) (range_one (M.r 1 1 rfl rfl)) U99 ?_
    simp only [Z0, Z6]
    refine aF 4 (v := .int .i64 r.length) (hv := by exact yl_lenS rfl rfl rfl U99) ?_
    simp only [Z0, Z6]
    refine aF 5 (v := .int .i64 (min r.length 40 : Nat)) (hv := by exact yl_min (n := r.length) (m := 40) rfl rfl rfl) ?_
    simp only [Z0, Z6]
    refine aF 6 (v := .string (bs (cut r 40))) (hv := by exact yl_cut (l := r) (m := 40) rfl rfl rfl U99) ?_
    simp only [Z0, Z6]
    refine any_step [8] (by kernel_rfl) rfl (any_one ?_)
    refine any_load 8 (v := .string (bs g)) (range_one (M.r 1 3 rfl rfl)) U99 ?_
    simp only [Z0, Z6]
    refine aF 13 (v := .string (bs (cut g 70))) (hv := by exact yl_cut (l := g) (m := 70) rfl rfl rfl U99) ?_
    simp only [Z0, Z6]
    exact any_listed (by kernel_rfl) HK
   refine any_load 8 (v := .string (bs g)) (range_one (M.r 1 3 rfl rfl)) U99 ?_
   simp only [Z0, Z6]
   refine aF 13 (v := .string (bs (cut g 70))) (hv := by exact yl_cut (l := g) (m := 70) rfl rfl rfl U99) ?_
   simp only [Z0, Z6]
   refine any_step [3] (by kernel_rfl) rfl (any_one ?_)
   refine any_load 3 (v := .string (bs r)) (range_one (M.r 1 1 rfl rfl)) U99 ?_
   simp only [Z0, Z6]
   refine aF 4 (v := .int .i64 r.length) (hv := by exact yl_lenS rfl rfl rfl U99) ?_
   simp only [Z0, Z6]
   refine aF 5 (v := .int .i64 (min r.length 40 : Nat)) (hv := by exact yl_min (n := r.length) (m := 40) rfl rfl rfl) ?_
   simp only [Z0, Z6]
   refine aF 6 (v := .string (bs (cut r 40))) (hv := by exact yl_cut (l := r) (m := 40) rfl rfl rfl U99) ?_
   simp only [Z0, Z6]
   exact any_listed (by kernel_rfl) HK
  ·
   refine any_load 3 (v := .string (bs r)) (range_one (M.r 1 1 rfl rfl)) U99 ?_
   simp only [Z0, Z6]
   refine aF 4 (v := .int .i64 r.length) (hv := by exact yl_lenS rfl rfl rfl U99) ?_
   simp only [Z0, Z6]
   refine aF 5 (v := .int .i64 (min r.length 40 : Nat)) (hv := by exact yl_min (n := r.length) (m := 40) rfl rfl rfl) ?_
   simp only [Z0, Z6]
   refine any_step [1, 8, 10] (by kernel_rfl) rfl (any_two ?_ (any_two ?_ (any_one ?_)))
   ·
    refine any_load 1 (v := .string (bs r)) (range_one (M.r 1 1 rfl rfl)) U99 ?_
    simp only [Z0, Z6]
    refine aF 6 (v := .string (bs (cut r 40))) (hv := by exact yl_cut (l := r) (m := 40) rfl rfl rfl U99) ?_
    simp only [Z0, Z6]
    refine any_step [8, 10] (by kernel_rfl) rfl (any_two ?_ (any_one ?_))
    ·
     refine any_load 8 (v := .string (bs g)) (range_one (M.r 1 3 rfl rfl)) U99 ?_
     simp only [Z0, Z6]
     refine any_step [10] (by kernel_rfl) rfl (any_one ?_)
     refine any_load 10 (v := .string (bs g)) (range_one (M.r 1 3 rfl rfl)) U99 ?_
     simp only [Z0, Z6]
     refine aF 11 (v := .int .i64 g.length) (hv := by exact yl_lenS rfl rfl rfl U99) ?_
     simp only [Z0, Z6]
     refine aF 12 (v := .int .i64 (min g.length 70 : Nat)) (hv := by exact yl_min (n := g.length) (m := 70) rfl rfl rfl) ?_
     simp only [Z0, Z6]
     refine aF 13 (v := .string (bs (cut g 70))) (hv := by exact yl_cut (l := g) (m := 70) rfl rfl rfl U99) ?_
     simp only [Z0, Z6]
     exact any_listed (by kernel_rfl) HK
    refine any_load 10 (v := .string (bs g)) (range_one (M.r 1 3 rfl rfl)) U99 ?_
    simp only [Z0, Z6]
    refine aF 11 (v := .int .i64 g.length) (hv := by exact yl_lenS rfl rfl rfl U99) ?_
    simp only [Z0, Z6]
    refine aF 12 (v := .int .i64 (min g.length 70 : Nat)) (hv := by exact yl_min (n := g.length) (m := 70) rfl rfl rfl) ?_
    simp only [Z0, Z6]
    refine any_step [8] (by kernel_rfl) rfl (any_one ?_)
    refine any_load 8 (v := .string (bs g)) (range_one (M.r 1 3 rfl rfl)) U99 ?_
    simp only [Z0, Z6]
    refine aF 13 (v := .string (bs (cut g 70))) (hv := by exact yl_cut (l := g) (m := 70) rfl rfl rfl U99) ?_
    simp only [Z0, Z6]
    exact any_listed (by kernel_rfl) HK
   ·
    refine any_load 8 (v := .string (bs g)) (range_one (M.r 1 3 rfl rfl)) U99 ?_
    simp only [Z0, Z6]
    refine any_step [1, 10] (by kernel_rfl) rfl (any_two ?_ (any_one ?_))
    ·
     refine any_load 1 (v := .string (bs r)) (range_one (M.r 1 1 rfl rfl)) U99 ?_
     simp only [Z0, Z6]
     refine aF 6 (v := .string (bs (cut r 40))) (hv := by exact yl_cut (l := r) (m := 40) rfl rfl rfl U99) ?_
     simp only [Z0, Z6]
     refine any_step [10] (by kernel_rfl) rfl (any_one ?_)
     refine any_load 10 (v := .string (bs g)) (range_one (M.r 1 3 rfl rfl)) U99 ?_
     simp only [Z0, Z6]
     refine aF 11 (v := .int .i64 g.length) (hv := by exact yl_lenS rfl rfl rfl U99) ?_
     simp only [Z0, Z6]
     refine aF 12 (v := .int .i64 (min g.length 70 : Nat)) (hv := by exact yl_min (n := g.length) (m := 70) rfl rfl rfl) ?_
     simp only [Z0, Z6]
     refine aF 13 (v := .string (bs (cut g 70))) (hv := by exact yl_cut (l := g) (m := 70) rfl rfl rfl U99) ?_
     simp only [Z0, Z6]
     exact any_listed (by kernel_rfl) HK
    refine any_load 10 (v := .string (bs g)) (range_one (M.r 1 3 rfl rfl)) U99 ?_
    simp only [Z0, Z6]
    refine aF 11 (v := .int .i64 g.length) (hv := by exact yl_lenS rfl rfl rfl U99) ?_
    simp only [Z0, Z6]
    refine aF 12 (v := .int .i64 (min g.length 70 : Nat)) (hv := by exact yl_min (n := g.length) (m := 70) rfl rfl rfl) ?_
    simp only [Z0, Z6]
    refine aF 13 (v := .string (bs (cut g 70))) (hv := by exact yl_cut (l := g) (m := 70) rfl rfl rfl U99) ?_
    simp only [Z0, Z6]
    refine any_step [1] (by kernel_rfl) rfl (any_one ?_)
    refine any_load 1 (v := .string (bs r)) (range_one (M.r 1 1 rfl rfl)) U99 ?_
    simp only [Z0, Z6]
    refine aF 6 (v := .string (bs (cut r 40))) (hv := by exact yl_cut (l := r) (m := 40) rfl rfl rfl U99) ?_
    simp only [Z0, Z6]
    exact any_listed (by kernel_rfl) HK
   refine any_load 10 (v := .string (bs g)) (range_one (M.r 1 3 rfl rfl)) U99 ?_
   simp only [Z0, Z6]
   refine aF 11 (v := .int .i64 g.length) (hv := by exact yl_lenS rfl rfl rfl U99) ?_
   simp only [Z0, Z6]
   refine aF 12 (v := .int .i64 (min g.length 70 : Nat)) (hv := by exact yl_min (n := g.length) (m := 70) rfl rfl rfl) ?_
   simp only [Z0, Z6]
   refine any_step [1, 8] (by kernel_rfl) rfl (any_two ?_ (any_one ?_))
   ·
    refine any_load 1 (v := .string (bs r)) (range_one (M.r 1 1 rfl rfl)) U99 ?_
    simp only [Z0, Z6]
    refine aF 6 (v := .string (bs (cut r 40))) (hv := by exact yl_cut (l := r) (m := 40) rfl rfl rfl U99) ?_
    simp only [Z0, Z6]
    refine any_step [8] (by kernel_rfl) rfl (any_one ?_)
    refine any_load 8 (v := .string (bs g)) (range_one (M.r 1 3 rfl rfl)) U99 ?_
    simp only [Z0, Z6]
    refine aF 13 (v := .string (bs (cut g 70))) (hv := by exact yl_cut (l := g) (m := 70) rfl rfl rfl U99) ?_
    simp only [Z0, Z6]
    exact any_listed (by kernel_rfl) HK
   refine any_load 8 (v := .string (bs g)) (range_one (M.r 1 3 rfl rfl)) U99 ?_
   simp only [Z0, Z6]
   refine aF 13 (v := .string (bs (cut g 70))) (hv := by exact yl_cut (l := g) (m := 70) rfl rfl rfl U99) ?_
   simp only [Z0, Z6]
   refine any_step [1] (by kernel_rfl) rfl (any_one ?_)
   refine any_load 1 (v := .string (bs r)) (range_one (M.r 1 1 rfl rfl)) U99 ?_
   simp only [Z0, Z6]
   refine aF 6 (v := .string (bs (cut r 40))) (hv := by exact yl_cut (l := r) (m := 40) rfl rfl rfl U99) ?_
   simp only [Z0, Z6]
   exact any_listed (by kernel_rfl) HK
  ·
   refine any_load 8 (v := .string (bs g)) (range_one (M.r 1 3 rfl rfl)) U99 ?_
   simp only [Z0, Z6]
   refine any_step [1, 3, 10] (by kernel_rfl) rfl (any_two ?_ (any_two ?_ (any_one ?_)))
   ·
    refine any_load 1 (v := .string (bs r)) (range_one (M.r 1 1 rfl rfl)) U99 ?_
    simp only [Z0, Z6]
    refine any_step [3, 10] (by kernel_rfl) rfl (any_two ?_ (any_one ?_))
    ·
     refine any_load 3 (v := .string (bs r)) (range_one (M.r 1 1 rfl rfl)) U99 ?_
     simp only [Z0, Z6]
     refine aF 4 (v := .int .i64 r.length) (hv := by exact yl_lenS rfl rfl rfl U99) ?_
     simp only [Z0, Z6]
     refine aF 5 (v := .int .i64 (min r.length 40 : Nat)) (hv := by exact yl_min (n := r.length) (m := 40) rfl rfl rfl) ?_
     simp only [Z0, Z6]
     refine aF 6 (v := .string (bs (cut r 40))) (hv := by exact yl_cut (l := r) (m := 40) rfl rfl rfl U99) ?_
     simp only [Z0, Z6]
     refine any_step [10] (by kernel_rfl) rfl (any_one ?_)
     refine any_load 10 (v := .string (bs g)) (range_one (M.r 1 3 rfl rfl)) U99 ?_
     simp only [Z0, Z6]
     refine aF 11 (v := .int .i64 g.length) (hv := by exact yl_lenS rfl rfl rfl U99) ?_
     simp only [Z0, Z6]
     refine aF 12 (v := .int .i64 (min g.length 70 : Nat)) (hv := by exact yl_min (n := g.length) (m := 70) rfl rfl rfl) ?_
     simp only [Z0, Z6]
     refine aF 13 (v := .string (bs (cut g 70))) (hv := by exact yl_cut (l := g) (m := 70) rfl rfl rfl U99) ?_
     simp only [Z0, Z6]
     exact any_listed (by kernel_rfl) HK
    refine any_load 10 (v := .string (bs g)) (range_one (M.r 1 3 rfl rfl)) U99 ?_
    simp only [Z0, Z6]
    refine aF 11 (v := .int .i64 g.length) (hv := by exact yl_lenS rfl rfl rfl U99) ?_
    simp only [Z0, Z6]
    refine aF 12 (v := .int .i64 (min g.length 70 : Nat)) (hv := by exact yl_min (n := g.length) (m := 70) rfl rfl rfl) ?_
    simp only [Z0, Z6]
    refine aF 13 (v := .string (bs (cut g 70))) (hv := by exact yl_cut (l := g) (m := 70) rfl rfl rfl U99) ?_
    simp only [Z0, Z6]
    refine any_step [3] (by kernel_rfl) rfl (any_one ?_)
    refine any_load 3 (v := .string (bs r)) (range_one (M.r 1 1 rfl rfl)) U99 ?_
    simp only [Z0, Z6]
    refine aF 4 (v := .int .i64 r.length) (hv := by exact yl_lenS rfl rfl rfl U99) ?_
    simp only [Z0, Z6]
    refine aF 5 (v := .int .i64 (min r.length 40 : Nat)) (hv := by exact yl_min (n := r.length) (m := 40) rfl rfl rfl) ?_
    simp only [Z0, Z6]
    refine aF 6 (v := .string (bs (cut r 40))) (hv := by exact yl_cut (l := r) (m := 40) rfl rfl rfl U99) ?_
    simp only [Z0, Z6]
    exact any_listed (by kernel_rfl) HK
   ·
    refine any_load 3 (v := .string (bs r)) (range_one (M.r 1 1 rfl rfl)) U99 ?_
    simp only [Z0, Z6]
    refine aF 4 (v := .int .i64 r.length) (hv := by exact yl_lenS rfl rfl rfl U99) ?_
    simp only [Z0, Z6]
    refine aF 5 (v := .int .i64 (min r.length 40 : Nat)) (hv := by exact yl_min (n := r.length) (m := 40) rfl rfl rfl) ?_
    simp only [Z0, Z6]
    refine any_step [1, 10] (by kernel_rfl) rfl (any_two ?_ (any_one ?_))
    ·
     refine any_load 1 (v := .string (bs r)) (range_one (M.r 1 1 rfl rfl)) U99 ?_
     simp only [Z0, Z6]
     refine aF 6 (v := .string (bs (cut r 40))) (hv := by exact yl_cut (l := r) (m := 40) rfl rfl rfl U99) ?_
     simp only [Z0, Z6]
     refine any_step [10] (by kernel_rfl) rfl (any_one ?_)
     refine any_load 10 (v := .string (bs g)) (range_one (M.r 1 3 rfl rfl)) U99 ?_
     simp only [Z0, Z6]
     refine aF 11 (v := .int .i64 g.length) (hv := by exact yl_lenS rfl rfl rfl U99) ?_
     simp only [Z0, Z6]
     refine aF 12 (v := .int .i64 (min g.length 70 : Nat)) (hv := by exact yl_min (n := g.length) (m := 70) rfl rfl rfl) ?_
     simp only [Z0, Z6]
     refine aF 13 (v := .string (bs (cut g 70))) (hv := by exact yl_cut (l := g) (m := 70) rfl rfl rfl U99) ?_
     simp only [Z0, Z6]
     exact any_listed (by kernel_rfl) HK
    refine any_load 10 (v := .string (bs g)) (range_one (M.r 1 3 rfl rfl)) U99 ?_
    simp only [Z0, Z6]
    refine aF 11 (v := .int .i64 g.length) (hv := by exact yl_lenS rfl rfl rfl U99) ?_
    simp only [Z0, Z6]
    refine aF 12 (v := .int .i64 (min g.length 70 : Nat)) (hv := by exact yl_min (n := g.length) (m := 70) rfl rfl rfl) ?_
    simp only [Z0, Z6]
    refine aF 13 (v := .string (bs (cut g 70))) (hv := by exact yl_cut (l := g) (m := 70) rfl rfl rfl U99) ?_
    simp only [Z0, Z6]
    refine any_step [1] (by kernel_rfl) rfl (any_one ?_)
    refine any_load 1 (v := .string (bs r)) (range_one (M.r 1 1 rfl rfl)) U99 ?_
    simp only [Z0, Z6]
    refine aF 6 (v := .string (bs (cut r 40))) (hv := by exact yl_cut (l := r) (m := 40) rfl rfl rfl U99) ?_
    simp only [Z0, Z6]
    exact any_listed (by kernel_rfl) HK
   refine any_load 10 (v := .string (bs g)) (range_one (M.r 1 3 rfl rfl)) U99 ?_
   simp only [Z0, Z6]
   refine aF 11 (v := .int .i64 g.length) (hv := by exact yl_lenS rfl rfl rfl U99) ?_
   simp only [Z0, Z6]
   refine aF 12 (v := .int .i64 (min g.length 70 : Nat)) (hv := by exact yl_min (n := g.length) (m := 70) rfl rfl rfl) ?_
   simp only [Z0, Z6]
   refine aF 13 (v := .string (bs (cut g 70))) (hv := by exact yl_cut (l := g) (m := 70) rfl rfl rfl U99) ?_
   simp only [Z0, Z6]
   refine any_step [1, 3] (by kernel_rfl) rfl (any_two ?_ (any_one ?_))
   ·
    refine any_load 1 (v := .string (bs r)) (range_one (M.r 1 1 rfl rfl)) U99 ?_
    simp only [Z0, Z6]
    refine any_step [3] (by kernel_rfl) rfl (any_one ?_)
    refine any_load 3 (v := .string (bs r)) (range_one (M.r 1 1 rfl rfl)) U99 ?_
    simp only [Z0, Z6]
    refine aF 4 (v := .int .i64 r.length) (hv := by exact yl_lenS rfl rfl rfl U99) ?_
    simp only [Z0, Z6]
    refine aF 5 (v := .int .i64 (min r.length 40 : Nat)) (hv := by exact yl_min (n := r.length) (m := 40) rfl rfl rfl) ?_
    simp only [Z0, Z6]
    refine aF 6 (v := .string (bs (cut r 40))) (hv := by exact yl_cut (l := r) (m := 40) rfl rfl rfl U99) ?_
    simp only [Z0, Z6]
    exact any_listed (by kernel_rfl) HK
   refine any_load 3 (v := .string (bs r)) (range_one (M.r 1 1 rfl rfl)) U99 ?_
   simp only [Z0, Z6]
   refine aF 4 (v := .int .i64 r.length) (hv := by exact yl_lenS rfl rfl rfl U99) ?_
   simp only [Z0, Z6]
   refine aF 5 (v := .int .i64 (min r.length 40 : Nat)) (hv := by exact yl_min (n := r.length) (m := 40) rfl rfl rfl) ?_
   simp only [Z0, Z6]
   refine any_step [1] (by kernel_rfl) rfl (any_one ?_)
   refine any_load 1 (v := .string (bs r)) (range_one (M.r 1 1 rfl rfl)) U99 ?_
   simp only [Z0, Z6]
   refine aF 6 (v := .string (bs (cut r 40))) (hv := by exact yl_cut (l := r) (m := 40) rfl rfl rfl U99) ?_
   simp only [Z0, Z6]
   exact any_listed (by kernel_rfl) HK
  refine any_load 10 (v := .string (bs g)) (range_one (M.r 1 3 rfl rfl)) U99 ?_
  simp only [Z0, Z6]
  refine aF 11 (v := .int .i64 g.length) (hv := by exact yl_lenS rfl rfl rfl U99) ?_
  simp only [Z0, Z6]
  refine aF 12 (v := .int .i64 (min g.length 70 : Nat)) (hv := by exact yl_min (n := g.length) (m := 70) rfl rfl rfl) ?_
  simp only [Z0, Z6]
  refine any_step [1, 3, 8] (by kernel_rfl) rfl (any_two ?_ (any_two ?_ (any_one ?_)))
  ·
   refine any_load 1 (v := .string (bs r)) (range_one (M.r 1 1 rfl rfl)) U99 ?_
   simp only [Z0, Z6]
   refine any_step [3, 8] (by kernel_rfl) rfl (any_two ?_ (any_one ?_))
   ·
    refine any_load 3 (v := .string (bs r)) (range_one (M.r 1 1 rfl rfl)) U99 ?_
    simp only [Z0, Z6]
    refine aF 4 (v := .int .i64 r.length) (hv := by exact yl_lenS rfl rfl rfl U99) ?_
    simp only [Z0, Z6]
    refine aF 5 (v := .int .i64 (min r.length 40 : Nat)) (hv := by exact yl_min (n := r.length) (m := 40) rfl rfl rfl) ?_
    simp only [Z0, Z6]
    refine aF 6 (v := .string (bs (cut r 40))) (hv := by exact yl_cut (l := r) (m := 40) rfl rfl rfl U99) ?_
    simp only [Z0, Z6]
    refine any_step [8] (by kernel_rfl) rfl (any_one ?_)
    refine any_load 8 (v := .string (bs g)) (range_one (M.r 1 3 rfl rfl)) U99 ?_
    simp only [Z0, Z6]
    refine aF 13 (v := .string (bs (cut g 70))) (hv := by exact yl_cut (l := g) (m := 70) rfl rfl rfl U99) ?_
    simp only [Z0, Z6]
    exact any_listed (by kernel_rfl) HK
   refine any_load 8 (v := .string (bs g)) (range_one (M.r 1 3 rfl rfl)) U99 ?_
   simp only [Z0, Z6]
   refine aF 13 (v := .string (bs (cut g 70))) (hv := by exact yl_cut (l := g) (m := 70) rfl rfl rfl U99) ?_
   simp only [Z0, Z6]
   refine any_step [3] (by kernel_rfl) rfl (any_one ?_)
   refine any_load 3 (v := .string (bs r)) (range_one (M.r 1 1 rfl rfl)) U99 ?_
   simp only [Z0, Z6]
   refine aF 4 (v := .int .i64 r.length) (hv := by exact yl_lenS rfl rfl rfl U99) ?_
   simp only [Z0, Z6]
   refine aF 5 (v := .int .i64 (min r.length 40 : Nat)) (hv := by exact yl_min (n := r.length) (m := 40) rfl rfl rfl) ?_
   simp only [Z0, Z6]
   refine aF 6 (v := .string (bs (cut r 40))) (hv := by exact yl_cut (l := r) (m := 40) rfl rfl rfl U99) ?_
   simp only [Z0, Z6]
   exact any_listed (by kernel_rfl) HK
  ·
   refine any_load 3 (v := .string (bs r)) (range_one (M.r 1 1 rfl rfl)) U99 ?_
   simp only [Z0, Z6]
   refine aF 4 (v := .int .i64 r.length) (hv := by exact yl_lenS rfl rfl rfl U99) ?_
   simp only [Z0, Z6]
   refine aF 5 (v := .int .i64 (min r.length 40 : Nat)) (hv := by exact yl_min (n := r.length) (m := 40) rfl rfl rfl) ?_
   simp only [Z0, Z6]
   refine any_step [1, 8] (by kernel_rfl) rfl (any_two ?_ (any_one ?_))
   ·
    refine any_load 1 (v := .string (bs r)) (range_one (M.r 1 1 rfl rfl)) U99 ?_
    simp only [Z0, Z6]
    refine aF 6 (v := .string (bs (cut r 40))) (hv := by exact yl_cut (l := r) (m := 40) rfl rfl rfl U99) ?_
    simp only [Z0, Z6]
    refine any_step [8] (by kernel_rfl) rfl (any_one ?_)
    refine any_load 8 (v := .string (bs g)) (range_one (M.r 1 3 rfl rfl)) U99 ?_
    simp only [Z0, Z6]
    refine aF 13 (v := .string (bs (cut g 70))) (hv := by exact yl_cut (l := g) (m := 70) rfl rfl rfl U99) ?_
    simp only [Z0, Z6]
    exact any_listed (by kernel_rfl) HK
   refine any_load 8 (v := .string (bs g)) (range_one (M.r 1 3 rfl rfl)) U99 ?_
   simp only [Z0, Z6]
   refine aF 13 (v := .string (bs (cut g 70))) (hv := by exact yl_cut (l := g) (m := 70) rfl rfl rfl U99) ?_
   simp only [Z0, Z6]
   refine any_step [1] (by kernel_rfl) rfl (any_one ?_)
   refine any_load 1 (v := .string (bs r)) (range_one (M.r 1 1 rfl rfl)) U99 ?_
   simp only [Z0, Z6]
   refine aF 6 (v := .string (bs (cut r 40))) (hv := by exact yl_cut (l := r) (m := 40) rfl rfl rfl U99) ?_
   simp only [Z0, Z6]
   exact any_listed (by kernel_rfl) HK
  refine any_load 8 (v := .string (bs g)) (range_one (M.r 1 3 rfl rfl)) U99 ?_
  simp only [Z0, Z6]
  refine aF 13 (v := .string (bs (cut g 70))) (hv := by exact yl_cut (l := g) (m := 70) rfl rfl rfl U99) ?_
  simp only [Z0, Z6]
  refine any_step [1, 3] (by kernel_rfl) rfl (any_two ?_ (any_one ?_))
  ·
   refine any_load 1 (v := .string (bs r)) (range_one (M.r 1 1 rfl rfl)) U99 ?_
   simp only [Z0, Z6]
   refine any_step [3] (by kernel_rfl) rfl (any_one ?_)
   refine any_load 3 (v := .string (bs r)) (range_one (M.r 1 1 rfl rfl)) U99 ?_
   simp only [Z0, Z6]
   refine aF 4 (v := .int .i64 r.length) (hv := by exact yl_lenS rfl rfl rfl U99) ?_
   simp only [Z0, Z6]
   refine aF 5 (v := .int .i64 (min r.length 40 : Nat)) (hv := by exact yl_min (n := r.length) (m := 40) rfl rfl rfl) ?_
   simp only [Z0, Z6]
   refine aF 6 (v := .string (bs (cut r 40))) (hv := by exact yl_cut (l := r) (m := 40) rfl rfl rfl U99) ?_
   simp only [Z0, Z6]
   exact any_listed (by kernel_rfl) HK
  refine any_load 3 (v := .string (bs r)) (range_one (M.r 1 1 rfl rfl)) U99 ?_
  simp only [Z0, Z6]
  refine aF 4 (v := .int .i64 r.length) (hv := by exact yl_lenS rfl rfl rfl U99) ?_
  simp only [Z0, Z6]
  refine aF 5 (v := .int .i64 (min r.length 40 : Nat)) (hv := by exact yl_min (n := r.length) (m := 40) rfl rfl rfl) ?_
  simp only [Z0, Z6]
  refine any_step [1] (by kernel_rfl) rfl (any_one ?_)
  refine any_load 1 (v := .string (bs r)) (range_one (M.r 1 1 rfl rfl)) U99 ?_
  simp only [Z0, Z6]
  refine aF 6 (v := .string (bs (cut r 40))) (hv := by exact yl_cut (l := r) (m := 40) rfl rfl rfl U99) ?_
  simp only [Z0, Z6]
  exact any_listed (by kernel_rfl) HK
 refine aF 14 (v := .pointer (some ⟨g3, 1, none⟩)) (hv := fun W => by (go_simp; exact rfl)) ?_
 simp only [Z0, Z6]
 refine any_step [15] (by kernel_rfl) rfl (any_one ?_)
 refine any_opL 15 (by rfl) ?_
 simp only [Z7, Z8]
 refine lS1 (g := g3) (off := 1) (n := 4) (v := .string (bs (cut r 40))) (M.t 1 rfl) (by decide) info9 rfl (fun w10 P R T => ?_)
 replace M := M.putS (new := [.string (bs (cut r 40))]) 1 1 rfl P R T rfl (by simp [SepS, flen])
 simp only [Z6] at M
 refine Z14 (Z22 ?_)
 refine aF 16 (v := .pointer (some ⟨g3, 3, none⟩)) (hv := fun W => by (go_simp; exact rfl)) ?_
 simp only [Z0, Z6]
 refine any_step [17] (by kernel_rfl) rfl (any_one ?_)
 refine any_opL 17 (by rfl) ?_
 simp only [Z7, Z8]
 refine lS1 (g := g3) (off := 3) (n := 4) (v := .string (bs (cut g 70))) (M.t 1 rfl) (by decide) info9 rfl (fun w11 P R T => ?_)
 replace M := M.putS (new := [.string (bs (cut g 70))]) 1 3 rfl P R T rfl (by simp [SepS, flen])
 simp only [Z6] at M
 refine Z14 (Z22 ?_)
 refine any_end (by kernel_rfl) (Z15 ?_)
 refine hK7 _ _ ?_
 refine Z10 (fun K12 hK12 => Z13 ?_)
 refine lCh 1 (fun Lk hLk => ?_)
 refine vLd (cs := [.int .i64 z] ++ [.string (bs (cut r 40))] ++ [.int .i64 t] ++ [.string (bs (cut g 70))]) (range_join (range_join (range_join (M.r 1 0 rfl rfl) (M.r 1 1 rfl rfl) (by simp [flen])) (M.r 1 2 rfl rfl) (by simp [flen])) (M.r 1 3 rfl rfl) (by simp [flen])) (M.lt 1 rfl) U933 info33 ?_
 simp only [Z0, Z6]
 refine Z19 (hLk _ (fun w14 Sw14 => ?_))
 simp only [Z7, Z8]
 replace M := M.sees Sw14
 refine lSt (g := g5) (off := 0) (n := 4) (cs := [.int .i64 z] ++ [.string (bs (cut r 40))] ++ [.int .i64 t] ++ [.string (bs (cut g 70))]) (M.t 0 rfl) (by simp [flen]) info33 (by simp [fone, Value.oneCell']) (fun w15 P R T => ?_)
 replace M := M.put (segs' := [(0, [.int .i64 z]), (1, [.string (bs (cut r 40))]), (2, [.int .i64 t]), (3, [.string (bs (cut g 70))])]) 0 rfl P T (SegsOf.at R ⟨rfl, rfl, rfl, rfl, trivial⟩)
 simp only [Z6] at M
 refine lNp (hK12 _ _ ?_)
 refine wp_ret ?_
 repeat (first | with_reducible refine then_ret ?_ | with_reducible refine inblock_ret ?_)
 refine bodyPost_ret (v := .agg ([.int .i64 z] ++ [.string (bs (cut r 40))] ++ [.int .i64 t] ++ [.string (bs (cut g 70))] : List Value).toArray) (res1 rfl (.cell (by rfl) (run_loadVar_mid _ _ _ _ ([.int .i64 z] ++ [.string (bs (cut r 40))] ++ [.int .i64 t] ++ [.string (bs (cut g 70))]) _ (range_join (range_join (range_join (M.r 0 0 rfl rfl) (M.r 0 1 rfl rfl) (by simp [flen])) (M.r 0 2 rfl rfl) (by simp [flen])) (M.r 0 3 rfl rfl) (by simp [flen])) U933 rfl info33))) rfl ?_
 have BE := M.below
 exact ⟨rfl, BE⟩
set_option maxHeartbeats 1000000 in
theorem leaf_c {d : List UInt8} {w : World} (hd : d.length ≤ 9223372036854775744) (L1 : 1 < w.heap.size) (R1_0 : w.rangeAt 1 0 kcells) :
  Calls Tryd.prog 62 #[.string (bs d)] w fun e w' => e = .returned (.string (bs (leafS d))) ∧ Below w.heap.size w w' := by
 go_enter Tryd.func62, Tryd.ntmps62
 have M := Mem.start w
 refine Z10 (fun K1 hK1 => Z13 ?_)
 refine lAs (v := .string (bs ([]))) ?_
 simp only [Z0, Z6]
 refine lNp (hK1 _ _ ?_)
 refine Z10 (fun K3 hK3 => Z13 ?_)
 refine lMv (v := .string (bs d)) ?_
 simp only [Z0, Z6]
 refine wpL_rowN (vs := [.string (bs ([0])), .string (bs d)]) (z := .string { data := #[] }) (bytes := 16) (by rfl) (by rfl) U937 (by kernel_rfl) (by decide) (by kernel_rfl) (fun g5 w6 Sw6 Hg5 Bg5 => ?_)
 replace M := ((M.sees Sw6).add (N := 2) (cs := [.string (bs ([0])), .string (bs d)]) (M.ge Hg5) (M.fresh Hg5) Bg5 rfl)
 clear Bg5
 simp only [Z0, Z6]
 refine lCh 1 (fun Lk hLk => ?_)
 refine Z25 (v := .string (bs (leafS d))) (args := #[.slice (some ⟨g5, 0, none⟩) 2 2]) (by rfl) rfl Tryd.func75 (by kernel_rfl) (by kernel_rfl) rfl (fun W hW => (by have h := sum_c (ps := [[0], d]) (w := W) (by simp) (getD_le2 (by decide) hd) ((M.sees hW).oldL L1) ((M.sees hW).oldR R1_0 L1) (Nat.le_refl _) ((M.sees hW).lt 0 rfl) ((M.sees hW).r 0 0 rfl rfl); rw [flat2] at h; exact h)) ?_
 simp only [Z0, Z6]
 refine Z19 (hLk _ (fun w7 Sw7 => ?_))
 simp only [Z7, Z8]
 replace M := M.sees Sw7
 refine lAs (v := .string (bs (leafS d))) ?_
 simp only [Z0, Z6]
 refine lNp (hK3 _ _ ?_)
 refine wp_ret ?_
 repeat (first | with_reducible refine then_ret ?_ | with_reducible refine inblock_ret ?_)
 refine bodyPost_ret (v := .string (bs (leafS d))) (res1 rfl (.tmp (by rfl))) rfl ?_
 have BE := M.below
 exact ⟨rfl, BE⟩
set_option maxHeartbeats 1000000 in
theorem seed10_c  {w : World}  :
  Calls Tryd.prog 61 #[] w fun e w' => e = .returned (.string (bs seedL)) ∧ Below w.heap.size w w' := by
 go_enter Tryd.func61, Tryd.ntmps61
 have M := Mem.start w
 refine Z10 (fun K1 hK1 => Z13 ?_)
 refine lAs (v := .string (bs ([]))) ?_
 simp only [Z0, Z6]
 refine lNp (hK1 _ _ ?_)
 refine Z10 (fun K3 hK3 => Z13 ?_)
 refine lAs (v := .string (bs seedL)) ?_
 simp only [Z0, Z6]
 refine lNp (hK3 _ _ ?_)
 refine wp_ret ?_
 repeat (first | with_reducible refine then_ret ?_ | with_reducible refine inblock_ret ?_)
 refine bodyPost_ret (v := .string (bs seedL)) (res1 rfl (.tmp (by rfl))) rfl ?_
 have BE := M.below
 exact ⟨rfl, BE⟩
set_option maxHeartbeats 2000000 in
theorem alive10_c  {w : World} (L1 : 1 < w.heap.size) (R1_0 : w.rangeAt 1 0 kcells) (L2 : 2 < w.heap.size) (R2_0 : w.rangeAt 2 0 kcellsq) :
  Calls Tryd.prog 22 #[] w fun e w' => e = .returned (.bool true) ∧ Below w.heap.size w w' := by
 go_enter Tryd.func22, Tryd.ntmps22
 have M := Mem.start w
 refine Z10 (fun K1 hK1 => Z13 ?_)
 refine lAs (v := .bool false) ?_
 simp only [Z0, Z6]
 refine lNp (hK1 _ _ ?_)
 refine Z10 (fun K3 hK3 => Z13 ?_)
 refine lCh 6 (fun Lk hLk => ?_)
 refine Z25 (v := .string (bs seedL)) (args := #[]) (by rfl) rfl Tryd.func61 (by kernel_rfl) (by kernel_rfl) rfl (fun W hW => seed10_c) ?_
 simp only [Z0, Z6]
 refine Z25 (v := .string (bs (leafS []))) (args := #[.string (bs ([]))]) (by rfl) rfl Tryd.func62 (by kernel_rfl) (by kernel_rfl) rfl (fun W hW => (leaf_c (d := []) (by decide) ((M.sees hW).oldL L1) ((M.sees hW).oldR R1_0 L1))) ?_
 simp only [Z0, Z6]
 refine Z25 (v := .tuple #[.agg ([.int .i64 0, .string (bs (leafS [])), .int .i64 5, .string (bs (edS seedL (sgnL 0 5 (leafS []))))]).toArray, .int .i64 0]) (args := #[.string (bs seedL), .int .i64 0, .string (bs (leafS [])), .int .i64 5]) (by rfl) rfl Tryd.func31 (by kernel_rfl) (by kernel_rfl) rfl (fun W hW => (hSign_ok (a := 0) (b := 5) (by decide) (by decide) (leafS_len _) (by decide) ((M.sees hW).oldL L2) ((M.sees hW).oldR R2_0 L2))) ?_
 simp only [Z0, Z6]
 refine vMv (v := .tuple #[.agg ([.int .i64 0, .string (bs (leafS [])), .int .i64 5, .string (bs (edS seedL (sgnL 0 5 (leafS []))))]).toArray, .int .i64 0]) ?_
 simp only [Z0, Z6]
 refine Z32 (v := .agg ([.int .i64 0, .string (bs (leafS [])), .int .i64 5, .string (bs (edS seedL (sgnL 0 5 (leafS []))))]).toArray) (by rfl) rfl rfl rfl ?_
 simp only [Z0, Z6]
 refine Z32 (v := .int .i64 0) (by rfl) rfl rfl rfl ?_
 simp only [Z0, Z6]
 refine Z19 (hLk _ (fun w5 Sw5 => ?_))
 simp only [Z7, Z8]
 replace M := M.sees Sw5
 refine Z36 (t := 33) (cs := [.int .i64 0, .string { data := #[] }, .int .i64 0, .string { data := #[] }]) (by rfl) (fun W => ?_) (fun g6 w7 Sw7 Hg6 Bg6 => ?_)
 ·
  go_simp
 replace M := ((M.sees Sw7).add (N := 4) (cs := [.int .i64 0, .string { data := #[] }, .int .i64 0, .string { data := #[] }]) (M.ge Hg6) (M.fresh Hg6) Bg6 rfl)
 clear Bg6
 simp only [Z0, Z6]
 refine lSt (g := g6) (off := 0) (n := 4) (cs := [.int .i64 0, .string (bs (leafS [])), .int .i64 5, .string (bs (edS seedL (sgnL 0 5 (leafS []))))]) (M.t 0 rfl) (by simp [flen]) info33 (by simp [fone, Value.oneCell']) (fun w8 P R T => ?_)
 replace M := M.put (segs' := [(0, [.int .i64 0]), (1, [.string (bs (leafS []))]), (2, [.int .i64 5]), (3, [.string (bs (edS seedL (sgnL 0 5 (leafS []))))])]) 0 rfl P T (SegsOf.at R ⟨rfl, rfl, rfl, rfl, trivial⟩)
 simp only [Z6] at M
 refine lAs (v := .int .i64 0) ?_
 simp only [Z0, Z6]
 refine lNp (hK3 _ _ ?_)
 refine Z10 (fun K9 hK9 => Z13 ?_)
 refine lMv (v := .int .i64 0) ?_
 simp only [Z0, Z6]
 refine lCh 10 (fun Lk hLk => ?_)
 refine vBn (v := .bool true) (hr := fun W => run_eql _ _ _ _ W) ?_
 simp only [Z0, Z6]
 refine vMv (v := .bool true) ?_
 simp only [Z0, Z6]
 refine vLd (cs := [.int .i64 0] ++ [.string (bs (leafS []))] ++ [.int .i64 5] ++ [.string (bs (edS seedL (sgnL 0 5 (leafS []))))]) (range_join (range_join (range_join (M.r 0 0 rfl rfl) (M.r 0 1 rfl rfl) (by simp [flen])) (M.r 0 2 rfl rfl) (by simp [flen])) (M.r 0 3 rfl rfl) (by simp [flen])) (M.lt 0 rfl) U933 info33 ?_
 simp only [Z0, Z6]
 refine Z25 (v := .bool true) (args := #[.agg ([.int .i64 0] ++ [.string (bs (leafS []))] ++ [.int .i64 5] ++ [.string (bs (edS seedL (sgnL 0 5 (leafS []))))] : List Value).toArray]) (by rfl) rfl G927 (by kernel_rfl) (by kernel_rfl) rfl (fun W hW => (by have h9 := hright_c (z := 0) (r := leafS []) (t := 5) (g := edS seedL (sgnL 0 5 (leafS []))) (w := W); rw [show rightH 0 (leafS []) 5 (edS seedL (sgnL 0 5 (leafS []))) = true from rightH_of (a := 0) (b := 5) (by decide) (by decide) (leafS_len _) (edS_len _ _)] at h9; exact h9)) ?_
 simp only [Z0, Z6]
 refine vPk (v := .bool true) ?_
 simp only [Z0, Z6]
 refine vMv (v := .bool true) ?_
 simp only [Z0, Z6]
 refine vGo (v := .pointer (some ⟨g6, 2, none⟩)) ?_
 simp only [Z0, Z6]
 refine vL1 (v := .int .i64 5) (range_one (M.r 0 2 rfl rfl)) (M.lt 0 rfl) U93 ?_
 simp only [Z0, Z6]
 refine vBn (v := .bool true) (hr := fun W => run_eql _ _ _ _ W) ?_
 simp only [Z0, Z6]
 refine vPk (v := .bool true) ?_
 simp only [Z0, Z6]
 refine Z19 (hLk _ (fun w11 Sw11 => ?_))
 simp only [Z7, Z8]
 replace M := M.sees Sw11
 refine lAs (v := .bool true) ?_
 simp only [Z0, Z6]
 refine lNp (hK9 _ _ ?_)
 refine wp_ret ?_
 repeat (first | with_reducible refine then_ret ?_ | with_reducible refine inblock_ret ?_)
 refine bodyPost_ret (v := .bool true) (res1 rfl (.tmp (by rfl))) rfl ?_
 have BE := M.below
 exact ⟨rfl, BE⟩
end Go.Proofs.Yc

namespace Go.Proofs.Yc
open Go Go.RowKit Go.Proofs.Num
open Tryd renaming func4 → G94, ntmps4 → T94, underlying3 → U93, underlying33 → U933, underlying37 → U937, underlying40 → U940, underlying9 → U99
open Go.Proofs.Num  renaming putT → Z0
open Nat renaming mod_eq_of_lt → Z5
open List renaming set → Z6, take → Z7, drop → Z8
open Go renaming wp_seq_k → Z10, wp_cond_true → Z11, wp_cond_false → Z12
open Go.Proofs.Num renaming wp_region_seq → Z13, wpV_nil → Z19, wpV_callf → Z25, wpN_skip → Z28, wpN_nil → Z29, wpV_extract → Z32, wpL_var → Z36
attribute [local irreducible] wpV wpN wpList
open Go.Proofs.Ya
theorem unpack_some {l : List UInt8} {qs : List (List UInt8)} {w : World} (hl : l.length ≤ 65536) (h : unpL 64 l = some qs) :
  Calls Tryd.prog 24 #[.string (bs l)] w fun e w' => ∃ v, e = .returned v ∧ (∃ a c, v = .tuple #[.slice a qs.length c, .int .i64 0] ∧ RowA w' a qs.length c (scells qs)) ∧ Below w.heap.size w w' :=
 (unpack_c hl).mono fun e w' ⟨v, he, ⟨a, c, x, hv, hR, hx⟩, hb⟩ => by
  have e1 : unpV l = qs := by unfold unpV; rw [h]; rfl
  have e2 : x = 0 := hx.2 (by rw [h]; rfl)
  rw [e1] at hv hR
  subst e2
  exact ⟨v, he, ⟨a, c, hv, hR⟩, hb⟩
set_option maxRecDepth 100000 in
set_option maxHeartbeats 4000000 in
theorem parts_ok {a b : Nat} {r g rr gg : List UInt8} {w : World} (hrr : rr = cut r 40) (hgg : gg = cut g 70) (ha : a ≤ 4096) (hb : b ≤ 1099511627776) (hr : rr.length = 32) (hg : gg.length = 64) (L1 : 1 < w.heap.size) (R1_0 : w.rangeAt 1 0 kcells) (L2 : 2 < w.heap.size) (R2_0 : w.rangeAt 2 0 kcellsq) :
  Calls Tryd.prog 4 #[.agg ([.int .i64 a, .string (bs r), .int .i64 b, .string (bs g)]).toArray] w fun e w' => e = .returned (.bool true) ∧ Below w.heap.size w w' := by
 go_enter G94, T94
 have M := Mem.start w
 refine Z10 (fun K1 hK1 => Z13 ?_)
 refine Z36 (t := 33) (cs := [.int .i64 a, .string (bs r), .int .i64 b, .string (bs g)]) (by rfl) (fun W => ?_) (fun g3 w4 Sw4 Hg3 Bg3 => ?_)
 ·
  (first | rfl | go_simp)
 replace M := ((M.sees Sw4).addS (N := 4) (cs := [.int .i64 a, .string (bs r), .int .i64 b, .string (bs g)]) (segs := [(0, [.int .i64 a]), (1, [.string (bs r)]), (2, [.int .i64 b]), (3, [.string (bs g)])]) (M.ge Hg3) (M.fresh Hg3) Bg3 rfl ⟨rfl, rfl, rfl, rfl, trivial⟩)
 clear Bg3
 simp only [Z0, Z6]
 refine lAs (v := .bool false) ?_
 simp only [Z0, Z6]
 refine lNp (hK1 _ _ ?_)
 refine Z10 (fun K5 hK5 => Z13 ?_)
 refine lCh 2 (fun Lk hLk => ?_)
 refine vLd (cs := [.int .i64 a] ++ [.string (bs r)] ++ [.int .i64 b] ++ [.string (bs g)]) (range_join (range_join (range_join (M.r 0 0 rfl rfl) (M.r 0 1 rfl rfl) (by simp [flen])) (M.r 0 2 rfl rfl) (by simp [flen])) (M.r 0 3 rfl rfl) (by simp [flen])) (M.lt 0 rfl) U933 info33 ?_
 simp only [Z0, Z6]
 refine Z25 (v := .agg ([.int .i64 a, .string (bs rr), .int .i64 b, .string (bs gg)]).toArray) (args := #[.agg ([.int .i64 a] ++ [.string (bs r)] ++ [.int .i64 b] ++ [.string (bs g)] : List Value).toArray]) (by rfl) rfl Tryd.func20 (by kernel_rfl) (by kernel_rfl) rfl (fun W hW => (by have h9 := few10_c (z := ((a : Nat) : Int)) (r := r) (t := ((b : Nat) : Int)) (g := g) (w := W); rw [← hrr, ← hgg] at h9; exact h9)) ?_
 simp only [Z0, Z6]
 refine Z19 (hLk _ (fun w7 Sw7 => ?_))
 simp only [Z7, Z8]
 replace M := M.sees Sw7
 refine lSt (g := g3) (off := 0) (n := 4) (cs := [.int .i64 a, .string (bs rr), .int .i64 b, .string (bs gg)]) (M.t 0 rfl) (by simp [flen]) info33 (by simp [fone, Value.oneCell']) (fun w8 P R T => ?_)
 replace M := M.put (segs' := [(0, [.int .i64 a]), (1, [.string (bs rr)]), (2, [.int .i64 b]), (3, [.string (bs gg)])]) 0 rfl P T (SegsOf.at R ⟨rfl, rfl, rfl, rfl, trivial⟩)
 simp only [Z6] at M
 refine lNp (hK5 _ _ ?_)
 refine Z10 (fun K9 hK9 => Z13 ?_)
 refine lCh 5 (fun Lk hLk => ?_)
 refine vLd (cs := [.int .i64 a] ++ [.string (bs rr)] ++ [.int .i64 b] ++ [.string (bs gg)]) (range_join (range_join (range_join (M.r 0 0 rfl rfl) (M.r 0 1 rfl rfl) (by simp [flen])) (M.r 0 2 rfl rfl) (by simp [flen])) (M.r 0 3 rfl rfl) (by simp [flen])) (M.lt 0 rfl) U933 info33 ?_
 simp only [Z0, Z6]
 refine Z25 (v := .tuple #[.string (bs (texL a b rr gg)), .int .i64 0]) (args := #[.agg ([.int .i64 a] ++ [.string (bs rr)] ++ [.int .i64 b] ++ [.string (bs gg)] : List Value).toArray]) (by rfl) rfl Tryd.func21 (by kernel_rfl) (by kernel_rfl) rfl (fun W hW => (by have h9 := Print_ok (a := a) (b := b) (r := rr) (g := gg) (w := W) ha hb hr hg; exact h9)) ?_
 simp only [Z0, Z6]
 refine vMv (v := .tuple #[.string (bs (texL a b rr gg)), .int .i64 0]) ?_
 simp only [Z0, Z6]
 refine Z32 (v := .string (bs (texL a b rr gg))) (by rfl) rfl rfl rfl ?_
 simp only [Z0, Z6]
 refine Z32 (v := .int .i64 0) (by rfl) rfl rfl rfl ?_
 simp only [Z0, Z6]
 refine Z19 (hLk _ (fun w11 Sw11 => ?_))
 simp only [Z7, Z8]
 replace M := M.sees Sw11
 refine lAs (v := .string (bs (texL a b rr gg))) ?_
 refine lAs (v := .int .i64 0) ?_
 simp only [Z0, Z6]
 refine lNp (hK9 _ _ ?_)
 refine Z10 (fun K12 hK12 => ?_)
 refine Z10 (fun K13 hK13 => Z13 ?_)
 refine lMv (v := .int .i64 0) ?_
 simp only [Z0, Z6]
 refine lCh 1 (fun Lk hLk => ?_)
 refine vBn (v := .bool false) (hr := fun W => run_neq _ _ _ _ W) ?_
 simp only [Z0, Z6]
 refine Z19 (hLk _ (fun w15 Sw15 => ?_))
 simp only [Z7, Z8]
 replace M := M.sees Sw15
 refine lNp (hK13 _ _ ?_)
 refine Z12 rfl ?_
 refine wp_skip ?_
 refine hK12 _ _ ?_
 refine Z10 (fun K16 hK16 => Z13 ?_)
 refine lMv (v := .string (bs (texL a b rr gg))) ?_
 simp only [Z0, Z6]
 refine wpL_callE (f := 24) (args := #[.string (bs (texL a b rr gg))]) (R := fun v9 W9 => ∃ a19 c19, v9 = .tuple #[.slice a19 (([sgnL a b rr, gg]).length) c19, .int .i64 0] ∧ RowA W9 a19 ([sgnL a b rr, gg]).length c19 (scells ([sgnL a b rr, gg]))) (by rfl) (by rfl) rfl Tryd.func24 (by kernel_rfl) (by kernel_rfl) (unpack_some (l := texL a b rr gg) (by rw [texL_len a b hr hg]; decide) (unp_tex a b hr hg)) (fun v9 w18 hv9 Sw18 => ?_)
 obtain ⟨a19, c19, rfl, H19_0⟩ := hv9
 replace M := M.sees Sw18
 replace R1_0 := M.oldR R1_0 L1
 replace R2_0 := M.oldR R2_0 L2
 replace L1 := M.oldL L1
 replace L2 := M.oldL L2
 have Rg3_0 := M.r 0 0 rfl rfl
 have Rg3_1 := M.r 0 1 rfl rfl
 have Rg3_2 := M.r 0 2 rfl rfl
 have Rg3_3 := M.r 0 3 rfl rfl
 have Lg3 := M.lt 0 rfl
 have BB := M.below
 replace M := Mem.start w18
 simp only [Z0, Z6]
 refine lMv (v := .tuple #[.slice a19 (([sgnL a b rr, gg]).length) c19, .int .i64 0]) ?_
 simp only [Z0, Z6]
 refine lCh 2 (fun Lk hLk => ?_)
 refine Z32 (v := .slice a19 (([sgnL a b rr, gg]).length) c19) (by rfl) rfl rfl rfl ?_
 simp only [Z0, Z6]
 refine Z32 (v := .int .i64 0) (by rfl) rfl rfl rfl ?_
 simp only [Z0, Z6]
 refine Z19 (hLk _ (fun w20 Sw20 => ?_))
 simp only [Z7, Z8]
 replace M := M.sees Sw20
 refine lAs (v := .slice a19 (([sgnL a b rr, gg]).length) c19) ?_
 refine lAs (v := .int .i64 0) ?_
 simp only [Z0, Z6]
 refine lNp (hK16 _ _ ?_)
 refine Z10 (fun K21 hK21 => ?_)
 refine Z10 (fun K22 hK22 => ?_)
 refine wp_region_grow 15 [] (by kernel_rfl) (by kernel_rfl) (by kernel_rfl) (fun Lk hLk => ?_)
 simp only [Z7, Z8]
 refine vMv (v := .int .i64 0) ?_
 simp only [Z0, Z6]
 refine vBn (v := .bool false) (hr := fun W => run_neq _ _ _ _ W) ?_
 simp only [Z0, Z6]
 refine vMv (v := .bool false) ?_
 simp only [Z0, Z6]
 refine vMv (v := .slice a19 (([sgnL a b rr, gg]).length) c19) ?_
 simp only [Z0, Z6]
 refine wpV_lenA (n := ([sgnL a b rr, gg]).length) (by rfl) rfl rfl rfl U937 ?_
 simp only [Z0, Z6]
 refine vBn (v := .bool false) (hr := fun W => (run_neqN (([sgnL a b rr, gg]).length) 2 _ _ W).trans (by rw [(show decide ([sgnL a b rr, gg].length ≠ 2) = false from rfl)])) ?_
 simp only [Z0, Z6]
 refine vPk (v := .bool false) ?_
 simp only [Z0, Z6]
 refine vMv (v := .bool false) ?_
 simp only [Z0, Z6]
 refine vMv (v := .slice a19 (([sgnL a b rr, gg]).length) c19) ?_
 simp only [Z0, Z6]
 refine wpV_idxA (i := 1) (by rfl) rfl rfl rfl U937 info9 (M.oldA H19_0) (by simp only [List.length_cons, List.length_nil]; decide) ?_
 simp only [Z0, Z6]
 refine wpV_loadA (i := 1) (v := .string (bs gg)) (by rfl) rfl rfl (M.oldA H19_0) rfl U99 rfl ?_
 simp only [Z0, Z6]
 refine vGo (v := .pointer (some ⟨g3, 3, none⟩)) ?_
 simp only [Z0, Z6]
 refine vL1 (v := .string (bs gg)) (range_one (M.oldR Rg3_3 Lg3)) (M.oldL Lg3) U99 ?_
 simp only [Z0, Z6]
 refine wpV_binS (v := .bool false) (by rfl) rfl rfl rfl (fun W => (run_neq_bs _ _ _ W).trans (by first | rw [show decide (gg ≠ gg) = false from (decide_eq_false (fun h9 => h9 rfl))] | (show Result.ok (Value.bool (decide (gg ≠ gg))) W = _; rw [show decide (gg ≠ gg) = false from (decide_eq_false (fun h9 => h9 rfl))]))) ?_
 simp only [Z0, Z6]
 refine vPk (v := .bool false) ?_
 simp only [Z0, Z6]
 refine Z19 (hLk.out _ ?_)
 simp only [Z7, Z8]
 iterate 15 refine Z28 (by rfl) ?_
 refine Z29 (fun w24 Sw24 hbs => ?_)
 clear hbs
 replace M := M.sees Sw24
 refine lNp (hK22 _ _ ?_)
 refine Z12 rfl ?_
 refine wp_skip ?_
 refine hK21 _ _ ?_
 refine Z10 (fun K25 hK25 => Z13 ?_)
 refine lMv (v := .slice a19 (([sgnL a b rr, gg]).length) c19) ?_
 simp only [Z0, Z6]
 refine lCh 2 (fun Lk hLk => ?_)
 refine wpV_idxA (i := 0) (by rfl) rfl rfl rfl U937 info9 (M.oldA H19_0) (by simp only [List.length_cons, List.length_nil]; decide) ?_
 simp only [Z0, Z6]
 refine wpV_loadA (i := 0) (v := .string (bs (sgnL a b rr))) (by rfl) rfl rfl (M.oldA H19_0) rfl U99 rfl ?_
 simp only [Z0, Z6]
 refine Z19 (hLk _ (fun w27 Sw27 => ?_))
 simp only [Z7, Z8]
 replace M := M.sees Sw27
 refine wpL_callE (f := 24) (args := #[.string (bs (sgnL a b rr))]) (R := fun v9 W9 => ∃ a29 c29, v9 = .tuple #[.slice a29 (([headL, beL 8 a, beL 8 b, rr]).length) c29, .int .i64 0] ∧ RowA W9 a29 ([headL, beL 8 a, beL 8 b, rr]).length c29 (scells ([headL, beL 8 a, beL 8 b, rr]))) (by rfl) (by rfl) rfl Tryd.func24 (by kernel_rfl) (by kernel_rfl) (unpack_some (l := sgnL a b rr) (by rw [sgnL_len a b hr]; decide) (unp_sgn a b hr)) (fun v9 w28 hv9 Sw28 => ?_)
 obtain ⟨a29, c29, rfl, H29_0⟩ := hv9
 replace M := M.sees Sw28
 replace Rg3_0 := M.oldR Rg3_0 Lg3
 replace Rg3_1 := M.oldR Rg3_1 Lg3
 replace Rg3_2 := M.oldR Rg3_2 Lg3
 replace Rg3_3 := M.oldR Rg3_3 Lg3
 replace R1_0 := M.oldR R1_0 L1
 replace R2_0 := M.oldR R2_0 L2
 replace Lg3 := M.oldL Lg3
 replace L1 := M.oldL L1
 replace L2 := M.oldL L2
 replace H19_0 := M.oldA H19_0
 replace BB := BB.trans (M.below.mono BB.size)
 replace M := Mem.start w28
 simp only [Z0, Z6]
 refine lMv (v := .tuple #[.slice a29 (([headL, beL 8 a, beL 8 b, rr]).length) c29, .int .i64 0]) ?_
 simp only [Z0, Z6]
 refine lCh 2 (fun Lk hLk => ?_)
 refine Z32 (v := .slice a29 (([headL, beL 8 a, beL 8 b, rr]).length) c29) (by rfl) rfl rfl rfl ?_
 simp only [Z0, Z6]
 refine Z32 (v := .int .i64 0) (by rfl) rfl rfl rfl ?_
 simp only [Z0, Z6]
 refine Z19 (hLk _ (fun w30 Sw30 => ?_))
 simp only [Z7, Z8]
 replace M := M.sees Sw30
 refine lAs (v := .slice a29 (([headL, beL 8 a, beL 8 b, rr]).length) c29) ?_
 refine lAs (v := .int .i64 0) ?_
 simp only [Z0, Z6]
 refine lNp (hK25 _ _ ?_)
 refine Z10 (fun K31 hK31 => ?_)
 refine Z10 (fun K32 hK32 => ?_)
 refine wp_region_grow 21 [] (by kernel_rfl) (by kernel_rfl) (by kernel_rfl) (fun Lk hLk => ?_)
 simp only [Z7, Z8]
 refine vMv (v := .int .i64 0) ?_
 simp only [Z0, Z6]
 refine vBn (v := .bool false) (hr := fun W => run_neq _ _ _ _ W) ?_
 simp only [Z0, Z6]
 refine vMv (v := .bool false) ?_
 simp only [Z0, Z6]
 refine vMv (v := .slice a29 (([headL, beL 8 a, beL 8 b, rr]).length) c29) ?_
 simp only [Z0, Z6]
 refine wpV_lenA (n := ([headL, beL 8 a, beL 8 b, rr]).length) (by rfl) rfl rfl rfl U937 ?_
 simp only [Z0, Z6]
 refine vBn (v := .bool false) (hr := fun W => (run_neqN (([headL, beL 8 a, beL 8 b, rr]).length) 4 _ _ W).trans (by rw [(show decide ([headL, beL 8 a, beL 8 b, rr].length ≠ 4) = false from rfl)])) ?_
 simp only [Z0, Z6]
 refine vPk (v := .bool false) ?_
 simp only [Z0, Z6]
 refine vMv (v := .bool false) ?_
 simp only [Z0, Z6]
 refine vMv (v := .slice a29 (([headL, beL 8 a, beL 8 b, rr]).length) c29) ?_
 simp only [Z0, Z6]
 refine wpV_idxA (i := 0) (by rfl) rfl rfl rfl U937 info9 (M.oldA H29_0) (by simp only [List.length_cons, List.length_nil]; decide) ?_
 simp only [Z0, Z6]
 refine wpV_loadA (i := 0) (v := .string (bs headL)) (by rfl) rfl rfl (M.oldA H29_0) rfl U99 rfl ?_
 simp only [Z0, Z6]
 refine wpV_binS (v := .bool false) (by rfl) rfl rfl rfl (fun W => (run_neq_bs _ _ _ W).trans (by first | rw [show decide (headL ≠ headL) = false from (decide_eq_false (fun h9 => h9 rfl))] | (show Result.ok (Value.bool (decide (headL ≠ headL))) W = _; rw [show decide (headL ≠ headL) = false from (decide_eq_false (fun h9 => h9 rfl))]))) ?_
 simp only [Z0, Z6]
 refine vPk (v := .bool false) ?_
 simp only [Z0, Z6]
 refine vMv (v := .bool false) ?_
 simp only [Z0, Z6]
 refine vMv (v := .slice a29 (([headL, beL 8 a, beL 8 b, rr]).length) c29) ?_
 simp only [Z0, Z6]
 refine wpV_idxA (i := 3) (by rfl) rfl rfl rfl U937 info9 (M.oldA H29_0) (by simp only [List.length_cons, List.length_nil]; decide) ?_
 simp only [Z0, Z6]
 refine wpV_loadA (i := 3) (v := .string (bs rr)) (by rfl) rfl rfl (M.oldA H29_0) rfl U99 rfl ?_
 simp only [Z0, Z6]
 refine vGo (v := .pointer (some ⟨g3, 1, none⟩)) ?_
 simp only [Z0, Z6]
 refine vL1 (v := .string (bs rr)) (range_one (M.oldR Rg3_1 Lg3)) (M.oldL Lg3) U99 ?_
 simp only [Z0, Z6]
 refine wpV_binS (v := .bool false) (by rfl) rfl rfl rfl (fun W => (run_neq_bs _ _ _ W).trans (by first | rw [show decide (rr ≠ rr) = false from (decide_eq_false (fun h9 => h9 rfl))] | (show Result.ok (Value.bool (decide (rr ≠ rr))) W = _; rw [show decide (rr ≠ rr) = false from (decide_eq_false (fun h9 => h9 rfl))]))) ?_
 simp only [Z0, Z6]
 refine vPk (v := .bool false) ?_
 simp only [Z0, Z6]
 refine Z19 (hLk.out _ ?_)
 simp only [Z7, Z8]
 iterate 21 refine Z28 (by rfl) ?_
 refine Z29 (fun w34 Sw34 hbs => ?_)
 clear hbs
 replace M := M.sees Sw34
 refine lNp (hK32 _ _ ?_)
 refine Z12 rfl ?_
 refine wp_skip ?_
 refine hK31 _ _ ?_
 refine Z10 (fun K35 hK35 => Z13 ?_)
 refine lMv (v := .slice a29 (([headL, beL 8 a, beL 8 b, rr]).length) c29) ?_
 simp only [Z0, Z6]
 refine lCh 6 (fun Lk hLk => ?_)
 refine wpV_idxA (i := 1) (by rfl) rfl rfl rfl U937 info9 (M.oldA H29_0) (by simp only [List.length_cons, List.length_nil]; decide) ?_
 simp only [Z0, Z6]
 refine wpV_loadA (i := 1) (v := .string (bs (beL 8 a))) (by rfl) rfl rfl (M.oldA H29_0) rfl U99 rfl ?_
 simp only [Z0, Z6]
 refine Z25 (v := .tuple #[.int .u64 a, .int .i64 0]) (args := #[.string (bs (beL 8 a))]) (by rfl) rfl Tryd.func25 (by kernel_rfl) (by kernel_rfl) rfl (fun W hW => (by have h9 := number_c (l := beL 8 a) (w := W) (by rw [beL_len]; decide); rw [num_be8 (by omega)] at h9; exact h9)) ?_
 simp only [Z0, Z6]
 refine vMv (v := .tuple #[.int .u64 a, .int .i64 0]) ?_
 simp only [Z0, Z6]
 refine Z32 (v := .int .u64 a) (by rfl) rfl rfl rfl ?_
 simp only [Z0, Z6]
 refine Z32 (v := .int .i64 0) (by rfl) rfl rfl rfl ?_
 simp only [Z0, Z6]
 refine Z19 (hLk _ (fun w37 Sw37 => ?_))
 simp only [Z7, Z8]
 replace M := M.sees Sw37
 refine lAs (v := .int .u64 a) ?_
 refine lAs (v := .int .i64 0) ?_
 simp only [Z0, Z6]
 refine lNp (hK35 _ _ ?_)
 refine Z10 (fun K38 hK38 => Z13 ?_)
 refine lMv (v := .slice a29 (([headL, beL 8 a, beL 8 b, rr]).length) c29) ?_
 simp only [Z0, Z6]
 refine lCh 6 (fun Lk hLk => ?_)
 refine wpV_idxA (i := 2) (by rfl) rfl rfl rfl U937 info9 (M.oldA H29_0) (by simp only [List.length_cons, List.length_nil]; decide) ?_
 simp only [Z0, Z6]
 refine wpV_loadA (i := 2) (v := .string (bs (beL 8 b))) (by rfl) rfl rfl (M.oldA H29_0) rfl U99 rfl ?_
 simp only [Z0, Z6]
 refine Z25 (v := .tuple #[.int .u64 b, .int .i64 0]) (args := #[.string (bs (beL 8 b))]) (by rfl) rfl Tryd.func25 (by kernel_rfl) (by kernel_rfl) rfl (fun W hW => (by have h9 := number_c (l := beL 8 b) (w := W) (by rw [beL_len]; decide); rw [num_be8 (by omega)] at h9; exact h9)) ?_
 simp only [Z0, Z6]
 refine vMv (v := .tuple #[.int .u64 b, .int .i64 0]) ?_
 simp only [Z0, Z6]
 refine Z32 (v := .int .u64 b) (by rfl) rfl rfl rfl ?_
 simp only [Z0, Z6]
 refine Z32 (v := .int .i64 0) (by rfl) rfl rfl rfl ?_
 simp only [Z0, Z6]
 refine Z19 (hLk _ (fun w40 Sw40 => ?_))
 simp only [Z7, Z8]
 replace M := M.sees Sw40
 refine lAs (v := .int .u64 b) ?_
 refine lAs (v := .int .i64 0) ?_
 simp only [Z0, Z6]
 refine lNp (hK38 _ _ ?_)
 refine Z10 (fun K41 hK41 => Z13 ?_)
 refine lCh 23 (fun Lk hLk => ?_)
 refine Z25 (v := .bool true) (args := #[]) (by rfl) rfl Tryd.func22 (by kernel_rfl) (by kernel_rfl) rfl (fun W hW => (alive10_c ((M.sees hW).oldL L1) ((M.sees hW).oldR R1_0 L1) ((M.sees hW).oldL L2) ((M.sees hW).oldR R2_0 L2))) ?_
 simp only [Z0, Z6]
 refine vMv (v := .bool true) ?_
 simp only [Z0, Z6]
 refine vMv (v := .int .i64 0) ?_
 simp only [Z0, Z6]
 refine vBn (v := .bool true) (hr := fun W => run_eql _ _ _ _ W) ?_
 simp only [Z0, Z6]
 refine vPk (v := .bool true) ?_
 simp only [Z0, Z6]
 refine vMv (v := .bool true) ?_
 simp only [Z0, Z6]
 refine vMv (v := .int .i64 0) ?_
 simp only [Z0, Z6]
 refine vBn (v := .bool true) (hr := fun W => run_eql _ _ _ _ W) ?_
 simp only [Z0, Z6]
 refine vPk (v := .bool true) ?_
 simp only [Z0, Z6]
 refine vMv (v := .bool true) ?_
 simp only [Z0, Z6]
 refine vMv (v := .int .u64 a) ?_
 simp only [Z0, Z6]
 refine vGo (v := .pointer (some ⟨g3, 0, none⟩)) ?_
 simp only [Z0, Z6]
 refine vL1 (v := .int .i64 a) (range_one (M.oldR Rg3_0 Lg3)) (M.oldL Lg3) U93 ?_
 simp only [Z0, Z6]
 refine wpV_conv (d := .bool) (e := ((a : Nat) : Int)) (by rfl) rfl rfl (run_conv_int U93 U940 ((wrap64N _).trans (congrArg _ (Z5 (by omega))))) ?_
 simp only [Z0, Z6]
 refine vBn (v := .bool true) (hr := fun W => (run_eqlN a a _ _ W).trans (by rw [(decide_eq_true rfl)])) ?_
 simp only [Z0, Z6]
 refine vPk (v := .bool true) ?_
 simp only [Z0, Z6]
 refine vMv (v := .bool true) ?_
 simp only [Z0, Z6]
 refine vMv (v := .int .u64 b) ?_
 simp only [Z0, Z6]
 refine vGo (v := .pointer (some ⟨g3, 2, none⟩)) ?_
 simp only [Z0, Z6]
 refine vL1 (v := .int .i64 b) (range_one (M.oldR Rg3_2 Lg3)) (M.oldL Lg3) U93 ?_
 simp only [Z0, Z6]
 refine wpV_conv (d := .bool) (e := ((b : Nat) : Int)) (by rfl) rfl rfl (run_conv_int U93 U940 ((wrap64N _).trans (congrArg _ (Z5 (by omega))))) ?_
 simp only [Z0, Z6]
 refine vBn (v := .bool true) (hr := fun W => (run_eqlN b b _ _ W).trans (by rw [(decide_eq_true rfl)])) ?_
 simp only [Z0, Z6]
 refine vPk (v := .bool true) ?_
 simp only [Z0, Z6]
 refine Z19 (hLk _ (fun w43 Sw43 => ?_))
 simp only [Z7, Z8]
 replace M := M.sees Sw43
 refine lAs (v := .bool true) ?_
 simp only [Z0, Z6]
 refine lNp (hK41 _ _ ?_)
 refine wp_ret ?_
 repeat (first | with_reducible refine then_ret ?_ | with_reducible refine inblock_ret ?_)
 refine bodyPost_ret (v := .bool true) (res1 rfl (.tmp (by rfl))) rfl ?_
 have BE := M.below
 exact ⟨rfl, BB.trans (BE.mono BB.size)⟩
set_option maxRecDepth 100000 in
set_option maxHeartbeats 4000000 in
theorem parts_no {z t : Int} {r g rr gg : List UInt8} {w : World} (hrr : rr = cut r 40) (hgg : gg = cut g 70) (h0 : rightH z rr t gg = false) (L1 : 1 < w.heap.size) (R1_0 : w.rangeAt 1 0 kcells) (L2 : 2 < w.heap.size) (R2_0 : w.rangeAt 2 0 kcellsq) :
  Calls Tryd.prog 4 #[.agg ([.int .i64 z, .string (bs r), .int .i64 t, .string (bs g)]).toArray] w fun e w' => e = .returned (.bool true) ∧ Below w.heap.size w w' := by
 go_enter G94, T94
 have M := Mem.start w
 refine Z10 (fun K1 hK1 => Z13 ?_)
 refine Z36 (t := 33) (cs := [.int .i64 z, .string (bs r), .int .i64 t, .string (bs g)]) (by rfl) (fun W => ?_) (fun g3 w4 Sw4 Hg3 Bg3 => ?_)
 ·
  (first | rfl | go_simp)
 replace M := ((M.sees Sw4).addS (N := 4) (cs := [.int .i64 z, .string (bs r), .int .i64 t, .string (bs g)]) (segs := [(0, [.int .i64 z]), (1, [.string (bs r)]), (2, [.int .i64 t]), (3, [.string (bs g)])]) (M.ge Hg3) (M.fresh Hg3) Bg3 rfl ⟨rfl, rfl, rfl, rfl, trivial⟩)
 clear Bg3
 simp only [Z0, Z6]
 refine lAs (v := .bool false) ?_
 simp only [Z0, Z6]
 refine lNp (hK1 _ _ ?_)
 refine Z10 (fun K5 hK5 => Z13 ?_)
 refine lCh 2 (fun Lk hLk => ?_)
 refine vLd (cs := [.int .i64 z] ++ [.string (bs r)] ++ [.int .i64 t] ++ [.string (bs g)]) (range_join (range_join (range_join (M.r 0 0 rfl rfl) (M.r 0 1 rfl rfl) (by simp [flen])) (M.r 0 2 rfl rfl) (by simp [flen])) (M.r 0 3 rfl rfl) (by simp [flen])) (M.lt 0 rfl) U933 info33 ?_
 simp only [Z0, Z6]
 refine Z25 (v := .agg ([.int .i64 z, .string (bs rr), .int .i64 t, .string (bs gg)]).toArray) (args := #[.agg ([.int .i64 z] ++ [.string (bs r)] ++ [.int .i64 t] ++ [.string (bs g)] : List Value).toArray]) (by rfl) rfl Tryd.func20 (by kernel_rfl) (by kernel_rfl) rfl (fun W hW => (by have h9 := few10_c (z := z) (r := r) (t := t) (g := g) (w := W); rw [← hrr, ← hgg] at h9; exact h9)) ?_
 simp only [Z0, Z6]
 refine Z19 (hLk _ (fun w7 Sw7 => ?_))
 simp only [Z7, Z8]
 replace M := M.sees Sw7
 refine lSt (g := g3) (off := 0) (n := 4) (cs := [.int .i64 z, .string (bs rr), .int .i64 t, .string (bs gg)]) (M.t 0 rfl) (by simp [flen]) info33 (by simp [fone, Value.oneCell']) (fun w8 P R T => ?_)
 replace M := M.put (segs' := [(0, [.int .i64 z]), (1, [.string (bs rr)]), (2, [.int .i64 t]), (3, [.string (bs gg)])]) 0 rfl P T (SegsOf.at R ⟨rfl, rfl, rfl, rfl, trivial⟩)
 simp only [Z6] at M
 refine lNp (hK5 _ _ ?_)
 refine Z10 (fun K9 hK9 => Z13 ?_)
 refine lCh 5 (fun Lk hLk => ?_)
 refine vLd (cs := [.int .i64 z] ++ [.string (bs rr)] ++ [.int .i64 t] ++ [.string (bs gg)]) (range_join (range_join (range_join (M.r 0 0 rfl rfl) (M.r 0 1 rfl rfl) (by simp [flen])) (M.r 0 2 rfl rfl) (by simp [flen])) (M.r 0 3 rfl rfl) (by simp [flen])) (M.lt 0 rfl) U933 info33 ?_
 simp only [Z0, Z6]
 refine Z25 (v := .tuple #[.string (bs ([])), .int .i64 1]) (args := #[.agg ([.int .i64 z] ++ [.string (bs rr)] ++ [.int .i64 t] ++ [.string (bs gg)] : List Value).toArray]) (by rfl) rfl Tryd.func21 (by kernel_rfl) (by kernel_rfl) rfl (fun W hW => (by have h9 := Print_no (z := z) (r := rr) (t := t) (g := gg) (w := W) h0; exact h9)) ?_
 simp only [Z0, Z6]
 refine vMv (v := .tuple #[.string (bs ([])), .int .i64 1]) ?_
 simp only [Z0, Z6]
 refine Z32 (v := .string (bs ([]))) (by rfl) rfl rfl rfl ?_
 simp only [Z0, Z6]
 refine Z32 (v := .int .i64 1) (by rfl) rfl rfl rfl ?_
 simp only [Z0, Z6]
 refine Z19 (hLk _ (fun w11 Sw11 => ?_))
 simp only [Z7, Z8]
 replace M := M.sees Sw11
 refine lAs (v := .string (bs ([]))) ?_
 refine lAs (v := .int .i64 1) ?_
 simp only [Z0, Z6]
 refine lNp (hK9 _ _ ?_)
 refine Z10 (fun K12 hK12 => ?_)
 refine Z10 (fun K13 hK13 => Z13 ?_)
 refine lMv (v := .int .i64 1) ?_
 simp only [Z0, Z6]
 refine lCh 1 (fun Lk hLk => ?_)
 refine vBn (v := .bool true) (hr := fun W => run_neq _ _ _ _ W) ?_
 simp only [Z0, Z6]
 refine Z19 (hLk _ (fun w15 Sw15 => ?_))
 simp only [Z7, Z8]
 replace M := M.sees Sw15
 refine lNp (hK13 _ _ ?_)
 refine Z11 rfl ?_
 refine Z10 (fun K16 hK16 => Z13 ?_)
 refine lCh 6 (fun Lk hLk => ?_)
 refine Z25 (v := .bool true) (args := #[]) (by rfl) rfl Tryd.func22 (by kernel_rfl) (by kernel_rfl) rfl (fun W hW => (alive10_c ((M.sees hW).oldL L1) ((M.sees hW).oldR R1_0 L1) ((M.sees hW).oldL L2) ((M.sees hW).oldR R2_0 L2))) ?_
 simp only [Z0, Z6]
 refine vMv (v := .bool true) ?_
 simp only [Z0, Z6]
 refine vLd (cs := [.int .i64 z] ++ [.string (bs rr)] ++ [.int .i64 t] ++ [.string (bs gg)]) (range_join (range_join (range_join (M.r 0 0 rfl rfl) (M.r 0 1 rfl rfl) (by simp [flen])) (M.r 0 2 rfl rfl) (by simp [flen])) (M.r 0 3 rfl rfl) (by simp [flen])) (M.lt 0 rfl) U933 info33 ?_
 simp only [Z0, Z6]
 refine Z25 (v := .bool false) (args := #[.agg ([.int .i64 z] ++ [.string (bs rr)] ++ [.int .i64 t] ++ [.string (bs gg)] : List Value).toArray]) (by rfl) rfl Tryd.func23 (by kernel_rfl) (by kernel_rfl) rfl (fun W hW => (by have h9 := rhright_c (z := z) (r := rr) (t := t) (g := gg) (w := W); rw [h0] at h9; exact h9)) ?_
 simp only [Z0, Z6]
 refine wpV_not (b := false) (by rfl) rfl rfl ?_
 simp only [Bool.not_true, Bool.not_false]
 simp only [Z0, Z6]
 refine vPk (v := .bool true) ?_
 simp only [Z0, Z6]
 refine Z19 (hLk _ (fun w18 Sw18 => ?_))
 simp only [Z7, Z8]
 replace M := M.sees Sw18
 refine lAs (v := .bool true) ?_
 simp only [Z0, Z6]
 refine lNp (hK16 _ _ ?_)
 refine wp_ret ?_
 repeat (first | with_reducible refine then_ret ?_ | with_reducible refine inblock_ret ?_)
 refine bodyPost_ret (v := .bool true) (res1 rfl (.tmp (by rfl))) rfl ?_
 have BE := M.below
 exact ⟨rfl, BE⟩
theorem parts_c {z t : Int} {r g : List UInt8} {w : World} (L1 : 1 < w.heap.size) (R1_0 : w.rangeAt 1 0 kcells) (L2 : 2 < w.heap.size) (R2_0 : w.rangeAt 2 0 kcellsq) :
  Calls Tryd.prog 4 #[.agg ([.int .i64 z, .string (bs r), .int .i64 t, .string (bs g)]).toArray] w fun e w' => e = .returned (.bool true) ∧ Below w.heap.size w w' := by
 cases h : rightH z (cut r 40) t (cut g 70)
 ·
  exact parts_no rfl rfl h L1 R1_0 L2 R2_0
 obtain ⟨a, b, rfl, rfl, ha, hb, hr, hg⟩ := rightH_parts h
 exact parts_ok rfl rfl ha hb hr hg L1 R1_0 L2 R2_0
end Go.Proofs.Yc

