import Derived.WalkKit
import Derived.WalkSpells
import Derived.Laws.Pointers
import Derived.RowKit3
import Derived.Below
import Derived.Outline
import Derived.LoopN
import Derived.Lib.Hide
import Derived.Handy
import Derived.Laws.Bits64b
import Derived.Test.YticcchgckljlnaaDoorSh5
import Derived.Test.YticcchgckljlnaaDoorSteps9
set_option linter.unusedSimpArgs false
set_option linter.unusedVariables false
namespace Go.Proofs.Yb
open Go Go.RowKit Go.Proofs.Num
attribute [local irreducible] wpV wpN wpList
theorem flat1 (a : List UInt8) : [a].flatten = a := by simp
theorem getD_le1 {a : List UInt8} {B : Nat} (ha : a.length ≤ B) (k : Nat) : (([a] : List (List UInt8)).getD k []).length ≤ B := by
  match k with
  | 0 => exact ha
  | k + 1 => exact Nat.zero_le _
set_option maxHeartbeats 1000000 in
theorem few02_c {x : SX} {w : World}  :
    Calls Tryd.prog 30 #[.agg ([.int .u32 ((x.h.a : Nat) : Int), .int .u32 ((x.h.b : Nat) : Int), .int .u32 ((x.h.c : Nat) : Int), .int .u32 ((x.h.d : Nat) : Int), .int .u32 ((x.h.e : Nat) : Int), .int .u32 ((x.h.f : Nat) : Int), .int .u32 ((x.h.g : Nat) : Int), .int .u32 ((x.h.h : Nat) : Int)] ++ [.string (bs x.b)] ++ [.int .u64 ((x.n : Nat) : Int)] : List Value).toArray] w fun e w' => e = .returned (.agg ([.int .u32 (((fewX x 200).h.a : Nat) : Int), .int .u32 (((fewX x 200).h.b : Nat) : Int), .int .u32 (((fewX x 200).h.c : Nat) : Int), .int .u32 (((fewX x 200).h.d : Nat) : Int), .int .u32 (((fewX x 200).h.e : Nat) : Int), .int .u32 (((fewX x 200).h.f : Nat) : Int), .int .u32 (((fewX x 200).h.g : Nat) : Int), .int .u32 (((fewX x 200).h.h : Nat) : Int)] ++ [.string (bs ((fewX x 200).b))] ++ [.int .u64 (((fewX x 200).n : Nat) : Int)] : List Value).toArray) ∧ Below w.heap.size w w' := by
  go_enter Tryd.func30, Tryd.ntmps30
  have M := Mem.start w
  refine wp_seq_k (fun K1 hK1 => ?_)
  refine wp_region_seq ?_
  refine wpL_var (t := 29) (cs := [.int .u32 ((x.h.a : Nat) : Int), .int .u32 ((x.h.b : Nat) : Int), .int .u32 ((x.h.c : Nat) : Int), .int .u32 ((x.h.d : Nat) : Int), .int .u32 ((x.h.e : Nat) : Int), .int .u32 ((x.h.f : Nat) : Int), .int .u32 ((x.h.g : Nat) : Int), .int .u32 ((x.h.h : Nat) : Int)] ++ [.string (bs x.b)] ++ [.int .u64 ((x.n : Nat) : Int)]) (by rfl) (fun W => ?_) (fun g3 w4 Sw4 Hg3 Bg3 => ?_)
  · (first | rfl | go_simp)
  replace M := ((M.sees Sw4).addS (N := 10) (cs := [.int .u32 ((x.h.a : Nat) : Int), .int .u32 ((x.h.b : Nat) : Int), .int .u32 ((x.h.c : Nat) : Int), .int .u32 ((x.h.d : Nat) : Int), .int .u32 ((x.h.e : Nat) : Int), .int .u32 ((x.h.f : Nat) : Int), .int .u32 ((x.h.g : Nat) : Int), .int .u32 ((x.h.h : Nat) : Int)] ++ [.string (bs x.b)] ++ [.int .u64 ((x.n : Nat) : Int)]) (segs := [(0, [.int .u32 ((x.h.a : Nat) : Int), .int .u32 ((x.h.b : Nat) : Int), .int .u32 ((x.h.c : Nat) : Int), .int .u32 ((x.h.d : Nat) : Int), .int .u32 ((x.h.e : Nat) : Int), .int .u32 ((x.h.f : Nat) : Int), .int .u32 ((x.h.g : Nat) : Int), .int .u32 ((x.h.h : Nat) : Int)]), (8, [.string (bs x.b)]), (9, [.int .u64 ((x.n : Nat) : Int)])]) (M.ge Hg3) (M.fresh Hg3) Bg3 (by simp [flen]) ⟨rfl, rfl, rfl, trivial⟩)
  clear Bg3
  simp only [putT, List.set]
  refine wpL_var (t := 29) (cs := [.int .u32 0, .int .u32 0, .int .u32 0, .int .u32 0, .int .u32 0, .int .u32 0, .int .u32 0, .int .u32 0, .string { data := #[] }, .int .u64 0]) (by rfl) (fun W => ?_) (fun g5 w6 Sw6 Hg5 Bg5 => ?_)
  · go_simp
  replace M := ((M.sees Sw6).addS (N := 10) (cs := [.int .u32 0, .int .u32 0, .int .u32 0, .int .u32 0, .int .u32 0, .int .u32 0, .int .u32 0, .int .u32 0, .string { data := #[] }, .int .u64 0]) (segs := [(0, [.int .u32 0, .int .u32 0, .int .u32 0, .int .u32 0, .int .u32 0, .int .u32 0, .int .u32 0, .int .u32 0]), (8, [.string { data := #[] }]), (9, [.int .u64 0])]) (M.ge Hg5) (M.fresh Hg5) Bg5 rfl ⟨rfl, rfl, rfl, trivial⟩)
  clear Bg5
  simp only [putT, List.set]
  refine wpL_nil (no_panic ?_)
  refine hK1 _ _ ?_
  refine wp_seq_k (fun K7 hK7 => ?_)
  refine wp_region_seq ?_
  refine wpL_chunk 8 (by rfl) (fun Lk hLk => ?_)
  simp only [List.take, List.drop]
  refine wpV_val (v := .pointer (some ⟨g3, 8, none⟩)) (by rfl) (by rfl) (fun W hW => ?_) ?_
  · (go_simp; exact rfl)
  simp only [putT, List.set]
  refine wpV_load1 (v := .string (bs x.b)) (by rfl) rfl rfl (range_one (M.r 1 1 rfl rfl)) (M.lt 1 rfl) Tryd.underlying9 rfl ?_
  simp only [putT, List.set]
  refine wpV_val (v := .pointer (some ⟨g3, 8, none⟩)) (by rfl) (by rfl) (fun W hW => ?_) ?_
  · (go_simp; exact rfl)
  simp only [putT, List.set]
  refine wpV_load1 (v := .string (bs x.b)) (by rfl) rfl rfl (range_one (M.r 1 1 rfl rfl)) (M.lt 1 rfl) Tryd.underlying9 rfl ?_
  simp only [putT, List.set]
  refine wpV_lenS (by rfl) rfl rfl rfl Tryd.underlying9 ?_
  simp only [putT, List.set]
  refine wpV_min (n := x.b.length) (m := 200) (by rfl) rfl rfl rfl ?_
  simp only [putT, List.set]
  refine wpV_cut (l := x.b) (m := 200) (by rfl) rfl rfl rfl Tryd.underlying9 ?_
  simp only [putT, List.set]
  refine wpV_val (v := .pointer (some ⟨g3, 8, none⟩)) (by rfl) (by rfl) (fun W hW => ?_) ?_
  · (go_simp; exact rfl)
  simp only [putT, List.set]
  refine wpV_nil (hLk _ (fun w9 Sw9 => ?_))
  clear hLk Lk
  simp only [List.take, List.drop]
  replace M := M.sees Sw9
  refine wpL_store1 (g := g3) (off := 8) (n := 10) (v := .string (bs (cut x.b 200))) (by rfl) (by rfl) (by rfl) (by rfl) (by rfl) (M.t 1 rfl) (by decide) info9 rfl (fun w10 P R T => ?_)
  replace M := M.putS (new := [.string (bs (cut x.b 200))]) 1 1 rfl P R T rfl (by simp [SepS, flen])
  simp only [List.set] at M
  refine wpL_nil (no_panic ?_)
  refine hK7 _ _ ?_
  refine wp_seq_k (fun K11 hK11 => ?_)
  refine wp_region_seq ?_
  refine wpL_chunk 1 (by rfl) (fun Lk hLk => ?_)
  simp only [List.take, List.drop]
  refine wpV_load (cs := [.int .u32 ((x.h.a : Nat) : Int), .int .u32 ((x.h.b : Nat) : Int), .int .u32 ((x.h.c : Nat) : Int), .int .u32 ((x.h.d : Nat) : Int), .int .u32 ((x.h.e : Nat) : Int), .int .u32 ((x.h.f : Nat) : Int), .int .u32 ((x.h.g : Nat) : Int), .int .u32 ((x.h.h : Nat) : Int)] ++ [.string (bs (cut x.b 200))] ++ [.int .u64 ((x.n : Nat) : Int)]) (by rfl) rfl rfl (range_join (range_join (M.r 1 0 rfl rfl) (M.r 1 1 rfl rfl) (by simp [flen])) (M.r 1 2 rfl rfl) (by simp [flen])) (M.lt 1 rfl) Tryd.underlying29 rfl info29 ?_
  simp only [putT, List.set]
  refine wpV_nil (hLk _ (fun w13 Sw13 => ?_))
  clear hLk Lk
  simp only [List.take, List.drop]
  replace M := M.sees Sw13
  refine wpL_store (g := g5) (off := 0) (n := 10) (cs := [.int .u32 ((x.h.a : Nat) : Int), .int .u32 ((x.h.b : Nat) : Int), .int .u32 ((x.h.c : Nat) : Int), .int .u32 ((x.h.d : Nat) : Int), .int .u32 ((x.h.e : Nat) : Int), .int .u32 ((x.h.f : Nat) : Int), .int .u32 ((x.h.g : Nat) : Int), .int .u32 ((x.h.h : Nat) : Int)] ++ [.string (bs (cut x.b 200))] ++ [.int .u64 ((x.n : Nat) : Int)]) (by rfl) (by rfl) (by rfl) (by rfl) (by rfl) (M.t 0 rfl) (by simp [flen]) info29 (by simp [fone, Value.oneCell']) (fun w14 P R T => ?_)
  replace M := M.put (segs' := [(0, [.int .u32 ((x.h.a : Nat) : Int), .int .u32 ((x.h.b : Nat) : Int), .int .u32 ((x.h.c : Nat) : Int), .int .u32 ((x.h.d : Nat) : Int), .int .u32 ((x.h.e : Nat) : Int), .int .u32 ((x.h.f : Nat) : Int), .int .u32 ((x.h.g : Nat) : Int), .int .u32 ((x.h.h : Nat) : Int)]), (8, [.string (bs (cut x.b 200))]), (9, [.int .u64 ((x.n : Nat) : Int)])]) 0 rfl P T (SegsOf.at R ⟨rfl, rfl, rfl, trivial⟩)
  simp only [List.set] at M
  refine wpL_nil (no_panic ?_)
  refine hK11 _ _ ?_
  refine wp_ret ?_
  repeat (first | with_reducible refine then_ret ?_ | with_reducible refine inblock_ret ?_)
  refine bodyPost_ret (v := .agg ([.int .u32 ((x.h.a : Nat) : Int), .int .u32 ((x.h.b : Nat) : Int), .int .u32 ((x.h.c : Nat) : Int), .int .u32 ((x.h.d : Nat) : Int), .int .u32 ((x.h.e : Nat) : Int), .int .u32 ((x.h.f : Nat) : Int), .int .u32 ((x.h.g : Nat) : Int), .int .u32 ((x.h.h : Nat) : Int)] ++ [.string (bs (cut x.b 200))] ++ [.int .u64 ((x.n : Nat) : Int)] : List Value).toArray) (res1 rfl (.cell (by rfl) (run_loadVar_mid _ _ _ _ ([.int .u32 ((x.h.a : Nat) : Int), .int .u32 ((x.h.b : Nat) : Int), .int .u32 ((x.h.c : Nat) : Int), .int .u32 ((x.h.d : Nat) : Int), .int .u32 ((x.h.e : Nat) : Int), .int .u32 ((x.h.f : Nat) : Int), .int .u32 ((x.h.g : Nat) : Int), .int .u32 ((x.h.h : Nat) : Int)] ++ [.string (bs (cut x.b 200))] ++ [.int .u64 ((x.n : Nat) : Int)]) _ (range_join (range_join (M.r 0 0 rfl rfl) (M.r 0 1 rfl rfl) (by simp [flen])) (M.r 0 2 rfl rfl) (by simp [flen])) Tryd.underlying29 rfl info29))) rfl ?_
  have BE := M.below
  exact ⟨rfl, BE⟩
set_option maxHeartbeats 1000000 in
theorem alive02_c  {w : World} (L0 : 0 < w.heap.size) (R0_0 : w.rangeAt 0 0 kcells) :
    Calls Tryd.prog 19 #[] w fun e w' => e = .returned (.bool true) ∧ Below w.heap.size w w' := by
  go_enter Tryd.func19, Tryd.ntmps19
  have M := Mem.start w
  refine wp_seq_k (fun K1 hK1 => ?_)
  refine wp_region_seq ?_
  refine wpL_assign (v := .bool false) (by rfl) (by rfl) (by rfl) ?_
  simp only [putT, List.set]
  refine wpL_nil (no_panic ?_)
  refine hK1 _ _ ?_
  refine wp_seq_k (fun K3 hK3 => ?_)
  refine wp_region_seq ?_
  refine wpL_rowN (vs := [.string (bs ([97, 98, 99]))]) (z := .string { data := #[] }) (bytes := 16) (by rfl) (by rfl) Tryd.underlying48 (by kernel_rfl) (by decide) (by kernel_rfl) (fun g5 w6 Sw6 Hg5 Bg5 => ?_)
  replace M := ((M.sees Sw6).add (N := 1) (cs := [.string (bs ([97, 98, 99]))]) (M.ge Hg5) (M.fresh Hg5) Bg5 rfl)
  clear Bg5
  simp only [putT, List.set]
  refine wpL_chunk 1 (by rfl) (fun Lk hLk => ?_)
  simp only [List.take, List.drop]
  refine wpV_callf (v := .string (bs (sha ([97, 98, 99])))) (args := #[.slice (some ⟨g5, 0, none⟩) 1 1]) (by rfl) rfl Tryd.func20 (by kernel_rfl) (by kernel_rfl) rfl (fun W hW => (by have h := sum_c (ps := [[97, 98, 99]]) (w := W) (by simp) (getD_le1 (by decide)) ((M.sees hW).oldL L0) ((M.sees hW).oldR R0_0 L0) (Nat.le_refl _) ((M.sees hW).lt 0 rfl) ((M.sees hW).r 0 0 rfl rfl); rw [flat1] at h; exact h)) ?_
  simp only [putT, List.set]
  refine wpV_nil (hLk _ (fun w7 Sw7 => ?_))
  clear hLk Lk
  simp only [List.take, List.drop]
  replace M := M.sees Sw7
  refine wpL_assign (v := .string (bs (sha ([97, 98, 99])))) (by rfl) (by rfl) (by rfl) ?_
  simp only [putT, List.set]
  refine wpL_nil (no_panic ?_)
  refine hK3 _ _ ?_
  refine wp_seq_k (fun K8 hK8 => ?_)
  refine wp_region_seq ?_
  refine wpL_move (v := .string (bs (sha ([97, 98, 99])))) (by rfl) (by rfl) (by rfl) ?_
  simp only [putT, List.set]
  refine wpL_chunk 7 (by rfl) (fun Lk hLk => ?_)
  simp only [List.take, List.drop]
  refine wpV_lenS (by rfl) rfl rfl rfl Tryd.underlying9 ?_
  simp only [putT, List.set]
  refine wpV_bin (v := .bool true) (by rfl) rfl rfl rfl (fun W => (run_eqlN ((sha ([97, 98, 99])).length) 32 _ _ W).trans (by rw [(decide_eq_true (sha_len _))])) ?_
  simp only [putT, List.set]
  refine wpV_move (v := .bool true) (by rfl) rfl rfl ?_
  simp only [putT, List.set]
  refine wpV_move (v := .string (bs (sha ([97, 98, 99])))) (by rfl) rfl rfl ?_
  simp only [putT, List.set]
  refine wpV_takeS (l := sha ([97, 98, 99])) (hi := 4) (by rfl) rfl rfl rfl Tryd.underlying9 (by rw [sha_len]; decide) ?_
  simp only [putT, List.set]
  refine wpV_binS (v := .bool true) (by rfl) rfl rfl rfl (fun W => (run_eql_bs _ _ _ W).trans (by rw [(decide_eq_true abc_sum)])) ?_
  simp only [putT, List.set]
  refine wpV_pick (v := .bool true) (by rfl) rfl rfl rfl ?_
  simp only [putT, List.set]
  refine wpV_nil (hLk _ (fun w10 Sw10 => ?_))
  clear hLk Lk
  simp only [List.take, List.drop]
  replace M := M.sees Sw10
  refine wpL_assign (v := .bool true) (by rfl) (by rfl) (by rfl) ?_
  simp only [putT, List.set]
  refine wpL_nil (no_panic ?_)
  refine hK8 _ _ ?_
  refine wp_ret ?_
  repeat (first | with_reducible refine then_ret ?_ | with_reducible refine inblock_ret ?_)
  refine bodyPost_ret (v := .bool true) (res1 rfl (.tmp (by rfl))) rfl ?_
  have BE := M.below
  exact ⟨rfl, BE⟩
set_option maxHeartbeats 4000000 in
theorem goes_c {x : SX} {l : List UInt8} {w : World} (hx : x.Ok) (hl : l.length ≤ 9223372036854775807) (L0 : 0 < w.heap.size) (R0_0 : w.rangeAt 0 0 kcells) :
    Calls Tryd.prog 5 #[.agg ([.int .u32 ((x.h.a : Nat) : Int), .int .u32 ((x.h.b : Nat) : Int), .int .u32 ((x.h.c : Nat) : Int), .int .u32 ((x.h.d : Nat) : Int), .int .u32 ((x.h.e : Nat) : Int), .int .u32 ((x.h.f : Nat) : Int), .int .u32 ((x.h.g : Nat) : Int), .int .u32 ((x.h.h : Nat) : Int)] ++ [.string (bs x.b)] ++ [.int .u64 ((x.n : Nat) : Int)] : List Value).toArray, .string (bs l)] w fun e w' => e = .returned (.bool true) ∧ Below w.heap.size w w' := by
  have hn := hx.n
  obtain ⟨y, hy⟩ : ∃ y, y = fewX x 200 := ⟨_, rfl⟩
  obtain ⟨m, hm⟩ : ∃ m, m = cut l 300 := ⟨_, rfl⟩
  have hyk : y.Ok := hy ▸ fewX_ok hx 200 (by decide)
  have hml : m.length ≤ 300 := hm ▸ cut_len _ _
  have hyn := hyk.n
  go_enter Tryd.func5, Tryd.ntmps5
  have M := Mem.start w
  refine wp_seq_k (fun K1 hK1 => ?_)
  refine wp_region_seq ?_
  refine wpL_var (t := 29) (cs := [.int .u32 ((x.h.a : Nat) : Int), .int .u32 ((x.h.b : Nat) : Int), .int .u32 ((x.h.c : Nat) : Int), .int .u32 ((x.h.d : Nat) : Int), .int .u32 ((x.h.e : Nat) : Int), .int .u32 ((x.h.f : Nat) : Int), .int .u32 ((x.h.g : Nat) : Int), .int .u32 ((x.h.h : Nat) : Int)] ++ [.string (bs x.b)] ++ [.int .u64 ((x.n : Nat) : Int)]) (by rfl) (fun W => ?_) (fun g3 w4 Sw4 Hg3 Bg3 => ?_)
  · (first | rfl | go_simp)
  replace M := ((M.sees Sw4).addS (N := 10) (cs := [.int .u32 ((x.h.a : Nat) : Int), .int .u32 ((x.h.b : Nat) : Int), .int .u32 ((x.h.c : Nat) : Int), .int .u32 ((x.h.d : Nat) : Int), .int .u32 ((x.h.e : Nat) : Int), .int .u32 ((x.h.f : Nat) : Int), .int .u32 ((x.h.g : Nat) : Int), .int .u32 ((x.h.h : Nat) : Int)] ++ [.string (bs x.b)] ++ [.int .u64 ((x.n : Nat) : Int)]) (segs := [(0, [.int .u32 ((x.h.a : Nat) : Int), .int .u32 ((x.h.b : Nat) : Int), .int .u32 ((x.h.c : Nat) : Int), .int .u32 ((x.h.d : Nat) : Int), .int .u32 ((x.h.e : Nat) : Int), .int .u32 ((x.h.f : Nat) : Int), .int .u32 ((x.h.g : Nat) : Int), .int .u32 ((x.h.h : Nat) : Int)]), (8, [.string (bs x.b)]), (9, [.int .u64 ((x.n : Nat) : Int)])]) (M.ge Hg3) (M.fresh Hg3) Bg3 (by simp [flen]) ⟨rfl, rfl, rfl, trivial⟩)
  clear Bg3
  simp only [putT, List.set]
  refine wpL_assign (v := .bool false) (by rfl) (by rfl) (by rfl) ?_
  simp only [putT, List.set]
  refine wpL_nil (no_panic ?_)
  refine hK1 _ _ ?_
  refine wp_seq_k (fun K5 hK5 => ?_)
  refine wp_region_treeN (by kernel_rfl) (fun w7 Sw7 => ?_)
  replace M := M.sees Sw7
  refine any_first 2 (v := .string (bs l)) (by rfl) (by kernel_rfl) nopanic_not (by rfl) (by exact yl_move rfl rfl) ?_
  simp only [putT, List.set]
  refine any_first 3 (v := .string (bs l)) (by rfl) (by kernel_rfl) nopanic_not (by rfl) (by exact yl_move rfl rfl) ?_
  simp only [putT, List.set]
  refine any_first 4 (v := .int .i64 ((l.length : Nat) : Int)) (by rfl) (by kernel_rfl) nopanic_not (by rfl) (by exact yl_lenS rfl rfl rfl Tryd.underlying9) ?_
  simp only [putT, List.set]
  refine any_first 5 (v := .int .i64 ((min l.length 300 : Nat) : Int)) (by rfl) (by kernel_rfl) nopanic_not (by rfl) (by exact yl_min (n := l.length) (m := 300) rfl rfl rfl) ?_
  simp only [putT, List.set]
  refine any_first 6 (v := .string (bs (cut l 300))) (by rfl) (by kernel_rfl) nopanic_not (by rfl) (by exact yl_cut (l := l) (m := 300) rfl rfl rfl Tryd.underlying9) ?_
  simp only [putT, List.set]
  refine any_step [0] (by kernel_rfl) rfl (any_one ?_)
  refine any_opL 0 (by rfl) ?_
  simp only [List.take, List.drop]
  refine wpL_chunk 1 (by rfl) (fun Lk hLk => ?_)
  simp only [List.take, List.drop]
  refine wpV_load (cs := [.int .u32 ((x.h.a : Nat) : Int), .int .u32 ((x.h.b : Nat) : Int), .int .u32 ((x.h.c : Nat) : Int), .int .u32 ((x.h.d : Nat) : Int), .int .u32 ((x.h.e : Nat) : Int), .int .u32 ((x.h.f : Nat) : Int), .int .u32 ((x.h.g : Nat) : Int), .int .u32 ((x.h.h : Nat) : Int)] ++ [.string (bs x.b)] ++ [.int .u64 ((x.n : Nat) : Int)]) (by rfl) rfl rfl (range_join (range_join (M.r 0 0 rfl rfl) (M.r 0 1 rfl rfl) (by simp [flen])) (M.r 0 2 rfl rfl) (by simp [flen])) (M.lt 0 rfl) Tryd.underlying29 rfl info29 ?_
  simp only [putT, List.set]
  refine wpV_nil (hLk _ (fun w8 Sw8 => ?_))
  clear hLk Lk
  simp only [List.take, List.drop]
  replace M := M.sees Sw8
  refine wpL_nil (then_normal ?_)
  refine any_step [1] (by kernel_rfl) rfl (any_one ?_)
  refine any_opL 1 (by rfl) ?_
  simp only [List.take, List.drop]
  refine wpL_chunk 1 (by rfl) (fun Lk hLk => ?_)
  simp only [List.take, List.drop]
  refine wpV_callf (v := .agg ([.int .u32 ((y.h.a : Nat) : Int), .int .u32 ((y.h.b : Nat) : Int), .int .u32 ((y.h.c : Nat) : Int), .int .u32 ((y.h.d : Nat) : Int), .int .u32 ((y.h.e : Nat) : Int), .int .u32 ((y.h.f : Nat) : Int), .int .u32 ((y.h.g : Nat) : Int), .int .u32 ((y.h.h : Nat) : Int)] ++ [.string (bs y.b)] ++ [.int .u64 ((y.n : Nat) : Int)] : List Value).toArray) (args := #[.agg ([.int .u32 ((x.h.a : Nat) : Int), .int .u32 ((x.h.b : Nat) : Int), .int .u32 ((x.h.c : Nat) : Int), .int .u32 ((x.h.d : Nat) : Int), .int .u32 ((x.h.e : Nat) : Int), .int .u32 ((x.h.f : Nat) : Int), .int .u32 ((x.h.g : Nat) : Int), .int .u32 ((x.h.h : Nat) : Int)] ++ [.string (bs x.b)] ++ [.int .u64 ((x.n : Nat) : Int)] : List Value).toArray]) (by rfl) rfl Tryd.func30 (by kernel_rfl) (by kernel_rfl) rfl (fun W hW => by have h9 : Calls Tryd.prog _ _ W _ := few02_c (x := x); rw [← hy] at h9; with_reducible exact h9) ?_
  simp only [putT, List.set]
  refine wpV_nil (hLk _ (fun w9 Sw9 => ?_))
  clear hLk Lk
  simp only [List.take, List.drop]
  replace M := M.sees Sw9
  refine wpL_nil (then_normal ?_)
  refine any_step [7] (by kernel_rfl) rfl (any_one ?_)
  refine any_opL 7 (by rfl) ?_
  simp only [List.take, List.drop]
  refine wpL_store (g := g3) (off := 0) (n := 10) (cs := [.int .u32 ((y.h.a : Nat) : Int), .int .u32 ((y.h.b : Nat) : Int), .int .u32 ((y.h.c : Nat) : Int), .int .u32 ((y.h.d : Nat) : Int), .int .u32 ((y.h.e : Nat) : Int), .int .u32 ((y.h.f : Nat) : Int), .int .u32 ((y.h.g : Nat) : Int), .int .u32 ((y.h.h : Nat) : Int)] ++ [.string (bs y.b)] ++ [.int .u64 ((y.n : Nat) : Int)]) (by rfl) (by rfl) (by rfl) (by rfl) (by rfl) (M.t 0 rfl) (by simp [flen]) info29 (by simp [fone, Value.oneCell']) (fun w10 P R T => ?_)
  replace M := M.put (segs' := [(0, [.int .u32 ((y.h.a : Nat) : Int), .int .u32 ((y.h.b : Nat) : Int), .int .u32 ((y.h.c : Nat) : Int), .int .u32 ((y.h.d : Nat) : Int), .int .u32 ((y.h.e : Nat) : Int), .int .u32 ((y.h.f : Nat) : Int), .int .u32 ((y.h.g : Nat) : Int), .int .u32 ((y.h.h : Nat) : Int)]), (8, [.string (bs y.b)]), (9, [.int .u64 ((y.n : Nat) : Int)])]) 0 rfl P T (SegsOf.at R ⟨rfl, rfl, rfl, trivial⟩)
  simp only [List.set] at M
  refine wpL_nil (then_normal ?_)
  refine any_first 8 (v := .string (bs (cut l 300))) (by rfl) (by kernel_rfl) nopanic_not (by rfl) (by exact yl_assign rfl rfl) ?_
  simp only [putT, List.set]
  refine any_end (by kernel_rfl) (no_panic ?_)
  rw [← hm]
  refine hK5 _ _ ?_
  refine wp_seq_k (fun K11 hK11 => ?_)
  rcases (show rightX y = false ∨ (rightX y = true ∧ overX y m = true) ∨ (rightX y = true ∧ overX y m = false) by cases rightX y <;> cases overX y m <;> simp) with hr | ⟨hr, ho⟩ | ⟨hr, ho⟩
  · skip
    refine wp_region_seq ?_
    refine wpL_chunk 6 (by rfl) (fun Lk hLk => ?_)
    simp only [List.take, List.drop]
    refine wpV_load (cs := [.int .u32 ((y.h.a : Nat) : Int), .int .u32 ((y.h.b : Nat) : Int), .int .u32 ((y.h.c : Nat) : Int), .int .u32 ((y.h.d : Nat) : Int), .int .u32 ((y.h.e : Nat) : Int), .int .u32 ((y.h.f : Nat) : Int), .int .u32 ((y.h.g : Nat) : Int), .int .u32 ((y.h.h : Nat) : Int)] ++ [.string (bs y.b)] ++ [.int .u64 ((y.n : Nat) : Int)]) (by rfl) rfl rfl (range_join (range_join (M.r 0 0 rfl rfl) (M.r 0 1 rfl rfl) (by simp [flen])) (M.r 0 2 rfl rfl) (by simp [flen])) (M.lt 0 rfl) Tryd.underlying29 rfl info29 ?_
    simp only [putT, List.set]
    refine wpV_move (v := .string (bs m)) (by rfl) rfl rfl ?_
    simp only [putT, List.set]
    refine wpV_callf (v := .tuple #[.agg ([.int .u32 ((zeroX.h.a : Nat) : Int), .int .u32 ((zeroX.h.b : Nat) : Int), .int .u32 ((zeroX.h.c : Nat) : Int), .int .u32 ((zeroX.h.d : Nat) : Int), .int .u32 ((zeroX.h.e : Nat) : Int), .int .u32 ((zeroX.h.f : Nat) : Int), .int .u32 ((zeroX.h.g : Nat) : Int), .int .u32 ((zeroX.h.h : Nat) : Int)] ++ [.string (bs zeroX.b)] ++ [.int .u64 ((zeroX.n : Nat) : Int)] : List Value).toArray, .int .i64 1]) (args := #[.agg ([.int .u32 ((y.h.a : Nat) : Int), .int .u32 ((y.h.b : Nat) : Int), .int .u32 ((y.h.c : Nat) : Int), .int .u32 ((y.h.d : Nat) : Int), .int .u32 ((y.h.e : Nat) : Int), .int .u32 ((y.h.f : Nat) : Int), .int .u32 ((y.h.g : Nat) : Int), .int .u32 ((y.h.h : Nat) : Int)] ++ [.string (bs y.b)] ++ [.int .u64 ((y.n : Nat) : Int)] : List Value).toArray, .string (bs m)]) (by rfl) rfl Tryd.func29 (by kernel_rfl) (by kernel_rfl) rfl (fun W hW => by have h9 : Calls Tryd.prog _ _ W _ := write_c (x := y) (l := m) hyk (by omega) ((M.sees hW).oldL L0) ((M.sees hW).oldR R0_0 L0); rw [(writeX_no m hr).1, (writeX_no m hr).2] at h9; with_reducible exact h9) ?_
    simp only [putT, List.set]
    refine wpV_move (v := .tuple #[.agg ([.int .u32 ((zeroX.h.a : Nat) : Int), .int .u32 ((zeroX.h.b : Nat) : Int), .int .u32 ((zeroX.h.c : Nat) : Int), .int .u32 ((zeroX.h.d : Nat) : Int), .int .u32 ((zeroX.h.e : Nat) : Int), .int .u32 ((zeroX.h.f : Nat) : Int), .int .u32 ((zeroX.h.g : Nat) : Int), .int .u32 ((zeroX.h.h : Nat) : Int)] ++ [.string (bs zeroX.b)] ++ [.int .u64 ((zeroX.n : Nat) : Int)] : List Value).toArray, .int .i64 1]) (by rfl) rfl rfl ?_
    simp only [putT, List.set]
    refine wpV_extract (v := .agg ([.int .u32 ((zeroX.h.a : Nat) : Int), .int .u32 ((zeroX.h.b : Nat) : Int), .int .u32 ((zeroX.h.c : Nat) : Int), .int .u32 ((zeroX.h.d : Nat) : Int), .int .u32 ((zeroX.h.e : Nat) : Int), .int .u32 ((zeroX.h.f : Nat) : Int), .int .u32 ((zeroX.h.g : Nat) : Int), .int .u32 ((zeroX.h.h : Nat) : Int)] ++ [.string (bs zeroX.b)] ++ [.int .u64 ((zeroX.n : Nat) : Int)] : List Value).toArray) (by rfl) rfl rfl rfl ?_
    simp only [putT, List.set]
    refine wpV_extract (v := .int .i64 1) (by rfl) rfl rfl rfl ?_
    simp only [putT, List.set]
    refine wpV_nil (hLk _ (fun w13 Sw13 => ?_))
    clear hLk Lk
    simp only [List.take, List.drop]
    replace M := M.sees Sw13
    refine wpL_var (t := 29) (cs := [.int .u32 0, .int .u32 0, .int .u32 0, .int .u32 0, .int .u32 0, .int .u32 0, .int .u32 0, .int .u32 0, .string { data := #[] }, .int .u64 0]) (by rfl) (fun W => ?_) (fun g14 w15 Sw15 Hg14 Bg14 => ?_)
    · go_simp
    replace M := ((M.sees Sw15).addS (N := 10) (cs := [.int .u32 0, .int .u32 0, .int .u32 0, .int .u32 0, .int .u32 0, .int .u32 0, .int .u32 0, .int .u32 0, .string { data := #[] }, .int .u64 0]) (segs := [(0, [.int .u32 0, .int .u32 0, .int .u32 0, .int .u32 0, .int .u32 0, .int .u32 0, .int .u32 0, .int .u32 0]), (8, [.string { data := #[] }]), (9, [.int .u64 0])]) (M.ge Hg14) (M.fresh Hg14) Bg14 rfl ⟨rfl, rfl, rfl, trivial⟩)
    clear Bg14
    simp only [putT, List.set]
    refine wpL_store (g := g14) (off := 0) (n := 10) (cs := [.int .u32 ((zeroX.h.a : Nat) : Int), .int .u32 ((zeroX.h.b : Nat) : Int), .int .u32 ((zeroX.h.c : Nat) : Int), .int .u32 ((zeroX.h.d : Nat) : Int), .int .u32 ((zeroX.h.e : Nat) : Int), .int .u32 ((zeroX.h.f : Nat) : Int), .int .u32 ((zeroX.h.g : Nat) : Int), .int .u32 ((zeroX.h.h : Nat) : Int)] ++ [.string (bs zeroX.b)] ++ [.int .u64 ((zeroX.n : Nat) : Int)]) (by rfl) (by rfl) (by rfl) (by rfl) (by rfl) (M.t 0 rfl) (by simp [flen]) info29 (by simp [fone, Value.oneCell']) (fun w16 P R T => ?_)
    replace M := M.put (segs' := [(0, [.int .u32 ((zeroX.h.a : Nat) : Int), .int .u32 ((zeroX.h.b : Nat) : Int), .int .u32 ((zeroX.h.c : Nat) : Int), .int .u32 ((zeroX.h.d : Nat) : Int), .int .u32 ((zeroX.h.e : Nat) : Int), .int .u32 ((zeroX.h.f : Nat) : Int), .int .u32 ((zeroX.h.g : Nat) : Int), .int .u32 ((zeroX.h.h : Nat) : Int)]), (8, [.string (bs zeroX.b)]), (9, [.int .u64 ((zeroX.n : Nat) : Int)])]) 0 rfl P T (SegsOf.at R ⟨rfl, rfl, rfl, trivial⟩)
    simp only [List.set] at M
    refine wpL_assign (v := .int .i64 1) (by rfl) (by rfl) (by rfl) ?_
    simp only [putT, List.set]
    refine wpL_nil (no_panic ?_)
    refine hK11 _ _ ?_
    refine wp_seq_k (fun K17 hK17 => ?_)
    refine wp_region_seq ?_
    refine wpL_chunk 5 (by rfl) (fun Lk hLk => ?_)
    simp only [List.take, List.drop]
    refine wpV_load (cs := [.int .u32 ((y.h.a : Nat) : Int), .int .u32 ((y.h.b : Nat) : Int), .int .u32 ((y.h.c : Nat) : Int), .int .u32 ((y.h.d : Nat) : Int), .int .u32 ((y.h.e : Nat) : Int), .int .u32 ((y.h.f : Nat) : Int), .int .u32 ((y.h.g : Nat) : Int), .int .u32 ((y.h.h : Nat) : Int)] ++ [.string (bs y.b)] ++ [.int .u64 ((y.n : Nat) : Int)]) (by rfl) rfl rfl (range_join (range_join (M.r 1 0 rfl rfl) (M.r 1 1 rfl rfl) (by simp [flen])) (M.r 1 2 rfl rfl) (by simp [flen])) (M.lt 1 rfl) Tryd.underlying29 rfl info29 ?_
    simp only [putT, List.set]
    refine wpV_callf (v := .tuple #[.string (bs ([])), .int .i64 1]) (args := #[.agg ([.int .u32 ((y.h.a : Nat) : Int), .int .u32 ((y.h.b : Nat) : Int), .int .u32 ((y.h.c : Nat) : Int), .int .u32 ((y.h.d : Nat) : Int), .int .u32 ((y.h.e : Nat) : Int), .int .u32 ((y.h.f : Nat) : Int), .int .u32 ((y.h.g : Nat) : Int), .int .u32 ((y.h.h : Nat) : Int)] ++ [.string (bs y.b)] ++ [.int .u64 ((y.n : Nat) : Int)] : List Value).toArray]) (by rfl) rfl Tryd.func31 (by kernel_rfl) (by kernel_rfl) rfl (fun W hW => by have h9 : Calls Tryd.prog _ _ W _ := End_c (x := y) hyk ((M.sees hW).oldL L0) ((M.sees hW).oldR R0_0 L0); rw [(endT_no hr).1, (endT_no hr).2] at h9; with_reducible exact h9) ?_
    simp only [putT, List.set]
    refine wpV_move (v := .tuple #[.string (bs ([])), .int .i64 1]) (by rfl) rfl rfl ?_
    simp only [putT, List.set]
    refine wpV_extract (v := .string (bs ([]))) (by rfl) rfl rfl rfl ?_
    simp only [putT, List.set]
    refine wpV_extract (v := .int .i64 1) (by rfl) rfl rfl rfl ?_
    simp only [putT, List.set]
    refine wpV_nil (hLk _ (fun w19 Sw19 => ?_))
    clear hLk Lk
    simp only [List.take, List.drop]
    replace M := M.sees Sw19
    refine wpL_assign (v := .string (bs ([]))) (by rfl) (by rfl) (by rfl) ?_
    simp only [putT, List.set]
    refine wpL_assign (v := .int .i64 1) (by rfl) (by rfl) (by rfl) ?_
    simp only [putT, List.set]
    refine wpL_nil (no_panic ?_)
    refine hK17 _ _ ?_
    refine wp_seq_k (fun K20 hK20 => ?_)
    refine wp_seq_k (fun K21 hK21 => ?_)
    refine wp_region_grow 9 [] (by kernel_rfl) (by kernel_rfl) (by kernel_rfl) (fun Lk hLk => ?_)
    simp only [List.take, List.drop]
    refine wpV_load (cs := [.int .u32 ((y.h.a : Nat) : Int), .int .u32 ((y.h.b : Nat) : Int), .int .u32 ((y.h.c : Nat) : Int), .int .u32 ((y.h.d : Nat) : Int), .int .u32 ((y.h.e : Nat) : Int), .int .u32 ((y.h.f : Nat) : Int), .int .u32 ((y.h.g : Nat) : Int), .int .u32 ((y.h.h : Nat) : Int)] ++ [.string (bs y.b)] ++ [.int .u64 ((y.n : Nat) : Int)]) (by rfl) rfl rfl (range_join (range_join (M.r 1 0 rfl rfl) (M.r 1 1 rfl rfl) (by simp [flen])) (M.r 1 2 rfl rfl) (by simp [flen])) (M.lt 1 rfl) Tryd.underlying29 rfl info29 ?_
    simp only [putT, List.set]
    refine wpV_callf (v := .bool false) (args := #[.agg ([.int .u32 ((y.h.a : Nat) : Int), .int .u32 ((y.h.b : Nat) : Int), .int .u32 ((y.h.c : Nat) : Int), .int .u32 ((y.h.d : Nat) : Int), .int .u32 ((y.h.e : Nat) : Int), .int .u32 ((y.h.f : Nat) : Int), .int .u32 ((y.h.g : Nat) : Int), .int .u32 ((y.h.h : Nat) : Int)] ++ [.string (bs y.b)] ++ [.int .u64 ((y.n : Nat) : Int)] : List Value).toArray]) (by rfl) rfl Tryd.func32 (by kernel_rfl) (by kernel_rfl) rfl (fun W hW => by have h9 : Calls Tryd.prog _ _ W _ := xright_c (x := y) hyk; rw [hr] at h9; exact h9) ?_
    simp only [putT, List.set]
    refine wpV_load (cs := [.int .u32 ((y.h.a : Nat) : Int), .int .u32 ((y.h.b : Nat) : Int), .int .u32 ((y.h.c : Nat) : Int), .int .u32 ((y.h.d : Nat) : Int), .int .u32 ((y.h.e : Nat) : Int), .int .u32 ((y.h.f : Nat) : Int), .int .u32 ((y.h.g : Nat) : Int), .int .u32 ((y.h.h : Nat) : Int)] ++ [.string (bs y.b)] ++ [.int .u64 ((y.n : Nat) : Int)]) (by rfl) rfl rfl (range_join (range_join (M.r 1 0 rfl rfl) (M.r 1 1 rfl rfl) (by simp [flen])) (M.r 1 2 rfl rfl) (by simp [flen])) (M.lt 1 rfl) Tryd.underlying29 rfl info29 ?_
    simp only [putT, List.set]
    refine wpV_callf (v := .bool false) (args := #[.agg ([.int .u32 ((y.h.a : Nat) : Int), .int .u32 ((y.h.b : Nat) : Int), .int .u32 ((y.h.c : Nat) : Int), .int .u32 ((y.h.d : Nat) : Int), .int .u32 ((y.h.e : Nat) : Int), .int .u32 ((y.h.f : Nat) : Int), .int .u32 ((y.h.g : Nat) : Int), .int .u32 ((y.h.h : Nat) : Int)] ++ [.string (bs y.b)] ++ [.int .u64 ((y.n : Nat) : Int)] : List Value).toArray]) (by rfl) rfl Tryd.func33 (by kernel_rfl) (by kernel_rfl) rfl (fun W hW => by have h9 : Calls Tryd.prog _ _ W _ := rxright_c (x := y) hyk; rw [hr] at h9; exact h9) ?_
    simp only [putT, List.set]
    refine wpV_val (v := .bool false) (by rfl) (by rfl) (fun W hW => ?_) ?_
    · (go_simp; exact rfl)
    simp only [putT, List.set]
    refine wpV_move (v := .bool false) (by rfl) rfl rfl ?_
    simp only [putT, List.set]
    refine wpV_callf (v := .bool true) (args := #[]) (by rfl) rfl Tryd.func19 (by kernel_rfl) (by kernel_rfl) rfl (fun W hW => alive02_c ((M.sees hW).oldL L0) ((M.sees hW).oldR R0_0 L0)) ?_
    simp only [putT, List.set]
    refine wpV_not (b := true) (by rfl) rfl rfl ?_
    simp only [Bool.not_true, Bool.not_false]
    simp only [putT, List.set]
    refine wpV_pick (v := .bool false) (by rfl) rfl rfl rfl ?_
    simp only [putT, List.set]
    refine wpV_nil (hLk.out _ ?_)
    clear hLk Lk
    simp only [List.take, List.drop]
    iterate 9 refine wpN_skip (by rfl) ?_
    refine wpN_nil (fun w23 Sw23 hbs => ?_)
    clear hbs
    replace M := M.sees Sw23
    refine wpL_nil (no_panic ?_)
    refine hK21 _ _ ?_
    refine wp_cond_false rfl ?_
    refine wp_skip ?_
    refine hK20 _ _ ?_
    refine wp_seq_k (fun K24 hK24 => ?_)
    refine wp_seq_k (fun K25 hK25 => ?_)
    refine wp_region_seq ?_
    refine wpL_chunk 3 (by rfl) (fun Lk hLk => ?_)
    simp only [List.take, List.drop]
    refine wpV_load (cs := [.int .u32 ((y.h.a : Nat) : Int), .int .u32 ((y.h.b : Nat) : Int), .int .u32 ((y.h.c : Nat) : Int), .int .u32 ((y.h.d : Nat) : Int), .int .u32 ((y.h.e : Nat) : Int), .int .u32 ((y.h.f : Nat) : Int), .int .u32 ((y.h.g : Nat) : Int), .int .u32 ((y.h.h : Nat) : Int)] ++ [.string (bs y.b)] ++ [.int .u64 ((y.n : Nat) : Int)]) (by rfl) rfl rfl (range_join (range_join (M.r 1 0 rfl rfl) (M.r 1 1 rfl rfl) (by simp [flen])) (M.r 1 2 rfl rfl) (by simp [flen])) (M.lt 1 rfl) Tryd.underlying29 rfl info29 ?_
    simp only [putT, List.set]
    refine wpV_callf (v := .bool false) (args := #[.agg ([.int .u32 ((y.h.a : Nat) : Int), .int .u32 ((y.h.b : Nat) : Int), .int .u32 ((y.h.c : Nat) : Int), .int .u32 ((y.h.d : Nat) : Int), .int .u32 ((y.h.e : Nat) : Int), .int .u32 ((y.h.f : Nat) : Int), .int .u32 ((y.h.g : Nat) : Int), .int .u32 ((y.h.h : Nat) : Int)] ++ [.string (bs y.b)] ++ [.int .u64 ((y.n : Nat) : Int)] : List Value).toArray]) (by rfl) rfl Tryd.func33 (by kernel_rfl) (by kernel_rfl) rfl (fun W hW => by have h9 : Calls Tryd.prog _ _ W _ := rxright_c (x := y) hyk; rw [hr] at h9; exact h9) ?_
    simp only [putT, List.set]
    refine wpV_not (b := false) (by rfl) rfl rfl ?_
    simp only [Bool.not_true, Bool.not_false]
    simp only [putT, List.set]
    refine wpV_nil (hLk _ (fun w27 Sw27 => ?_))
    clear hLk Lk
    simp only [List.take, List.drop]
    replace M := M.sees Sw27
    refine wpL_nil (no_panic ?_)
    refine hK25 _ _ ?_
    refine wp_cond_true rfl ?_
    refine wp_seq_k (fun K28 hK28 => ?_)
    refine wp_region_seq ?_
    refine wpL_move (v := .int .i64 1) (by rfl) (by rfl) (by rfl) ?_
    simp only [putT, List.set]
    refine wpL_chunk 14 (by rfl) (fun Lk hLk => ?_)
    simp only [List.take, List.drop]
    refine wpV_bin (v := .bool true) (by rfl) rfl rfl rfl (fun W => run_eql _ _ _ _ W) ?_
    simp only [putT, List.set]
    refine wpV_move (v := .bool true) (by rfl) rfl rfl ?_
    simp only [putT, List.set]
    refine wpV_move (v := .int .i64 1) (by rfl) rfl rfl ?_
    simp only [putT, List.set]
    refine wpV_bin (v := .bool true) (by rfl) rfl rfl rfl (fun W => run_eql _ _ _ _ W) ?_
    simp only [putT, List.set]
    refine wpV_pick (v := .bool true) (by rfl) rfl rfl rfl ?_
    simp only [putT, List.set]
    refine wpV_move (v := .bool true) (by rfl) rfl rfl ?_
    simp only [putT, List.set]
    refine wpV_load (cs := [.int .u32 ((zeroX.h.a : Nat) : Int), .int .u32 ((zeroX.h.b : Nat) : Int), .int .u32 ((zeroX.h.c : Nat) : Int), .int .u32 ((zeroX.h.d : Nat) : Int), .int .u32 ((zeroX.h.e : Nat) : Int), .int .u32 ((zeroX.h.f : Nat) : Int), .int .u32 ((zeroX.h.g : Nat) : Int), .int .u32 ((zeroX.h.h : Nat) : Int)] ++ [.string (bs zeroX.b)] ++ [.int .u64 ((zeroX.n : Nat) : Int)]) (by rfl) rfl rfl (range_join (range_join (M.r 0 0 rfl rfl) (M.r 0 1 rfl rfl) (by simp [flen])) (M.r 0 2 rfl rfl) (by simp [flen])) (M.lt 0 rfl) Tryd.underlying29 rfl info29 ?_
    simp only [putT, List.set]
    refine wpV_val (v := .agg ([.int .u32 0, .int .u32 0, .int .u32 0, .int .u32 0, .int .u32 0, .int .u32 0, .int .u32 0, .int .u32 0, .string { data := #[] }, .int .u64 0]).toArray) (by rfl) (by rfl) (fun W hW => ?_) ?_
    · (unfold RunsVal; kernel_rfl)
    simp only [putT, List.set]
    refine wpV_eqlT (k := 3) (u := [Value.int .u32 ((zeroX.h.a : Nat) : Int), Value.int .u32 ((zeroX.h.b : Nat) : Int), Value.int .u32 ((zeroX.h.c : Nat) : Int), Value.int .u32 ((zeroX.h.d : Nat) : Int), Value.int .u32 ((zeroX.h.e : Nat) : Int), Value.int .u32 ((zeroX.h.f : Nat) : Int), Value.int .u32 ((zeroX.h.g : Nat) : Int), Value.int .u32 ((zeroX.h.h : Nat) : Int)] ++ [Value.string (bs zeroX.b)] ++ [Value.int .u64 ((zeroX.n : Nat) : Int)]) (v := [Value.int .u32 0, Value.int .u32 0, Value.int .u32 0, Value.int .u32 0, Value.int .u32 0, Value.int .u32 0, Value.int .u32 0, Value.int .u32 0, Value.string { data := #[] }, Value.int .u64 0]) (b := true) (by rfl) rfl rfl rfl (by kernel_rfl) eq_sum_zero (by decide) ?_
    simp only [putT, List.set]
    refine wpV_pick (v := .bool true) (by rfl) rfl rfl rfl ?_
    simp only [putT, List.set]
    refine wpV_move (v := .bool true) (by rfl) rfl rfl ?_
    simp only [putT, List.set]
    refine wpV_move (v := .string (bs ([]))) (by rfl) rfl rfl ?_
    simp only [putT, List.set]
    refine wpV_binS (v := .bool true) (by rfl) rfl rfl rfl (fun W => (run_eql_bs _ _ _ W).trans (by rw [show decide ([] = []) = true from (decide_eq_true rfl)])) ?_
    simp only [putT, List.set]
    refine wpV_pick (v := .bool true) (by rfl) rfl rfl rfl ?_
    simp only [putT, List.set]
    refine wpV_nil (hLk _ (fun w30 Sw30 => ?_))
    clear hLk Lk
    simp only [List.take, List.drop]
    replace M := M.sees Sw30
    refine wpL_assign (v := .bool true) (by rfl) (by rfl) (by rfl) ?_
    simp only [putT, List.set]
    refine wpL_nil (no_panic ?_)
    refine hK28 _ _ ?_
    refine wp_ret ?_
    repeat (first | with_reducible refine then_ret ?_ | with_reducible refine inblock_ret ?_)
    refine bodyPost_ret (v := .bool true) (res1 rfl (.tmp (by rfl))) rfl ?_
    have BE := M.below
    exact ⟨rfl, BE⟩
  · skip
    obtain ⟨hr1, hr2, hr3⟩ := right_open hr
    have hov : decide (1099511627776 < (y.n + m.length) % 18446744073709551616) = true := by have := of_decide_eq_true ho; exact decide_eq_true (by omega)
    refine wp_region_seq ?_
    refine wpL_chunk 6 (by rfl) (fun Lk hLk => ?_)
    simp only [List.take, List.drop]
    refine wpV_load (cs := [.int .u32 ((y.h.a : Nat) : Int), .int .u32 ((y.h.b : Nat) : Int), .int .u32 ((y.h.c : Nat) : Int), .int .u32 ((y.h.d : Nat) : Int), .int .u32 ((y.h.e : Nat) : Int), .int .u32 ((y.h.f : Nat) : Int), .int .u32 ((y.h.g : Nat) : Int), .int .u32 ((y.h.h : Nat) : Int)] ++ [.string (bs y.b)] ++ [.int .u64 ((y.n : Nat) : Int)]) (by rfl) rfl rfl (range_join (range_join (M.r 0 0 rfl rfl) (M.r 0 1 rfl rfl) (by simp [flen])) (M.r 0 2 rfl rfl) (by simp [flen])) (M.lt 0 rfl) Tryd.underlying29 rfl info29 ?_
    simp only [putT, List.set]
    refine wpV_move (v := .string (bs m)) (by rfl) rfl rfl ?_
    simp only [putT, List.set]
    refine wpV_callf (v := .tuple #[.agg ([.int .u32 ((zeroX.h.a : Nat) : Int), .int .u32 ((zeroX.h.b : Nat) : Int), .int .u32 ((zeroX.h.c : Nat) : Int), .int .u32 ((zeroX.h.d : Nat) : Int), .int .u32 ((zeroX.h.e : Nat) : Int), .int .u32 ((zeroX.h.f : Nat) : Int), .int .u32 ((zeroX.h.g : Nat) : Int), .int .u32 ((zeroX.h.h : Nat) : Int)] ++ [.string (bs zeroX.b)] ++ [.int .u64 ((zeroX.n : Nat) : Int)] : List Value).toArray, .int .i64 2]) (args := #[.agg ([.int .u32 ((y.h.a : Nat) : Int), .int .u32 ((y.h.b : Nat) : Int), .int .u32 ((y.h.c : Nat) : Int), .int .u32 ((y.h.d : Nat) : Int), .int .u32 ((y.h.e : Nat) : Int), .int .u32 ((y.h.f : Nat) : Int), .int .u32 ((y.h.g : Nat) : Int), .int .u32 ((y.h.h : Nat) : Int)] ++ [.string (bs y.b)] ++ [.int .u64 ((y.n : Nat) : Int)] : List Value).toArray, .string (bs m)]) (by rfl) rfl Tryd.func29 (by kernel_rfl) (by kernel_rfl) rfl (fun W hW => by have h9 : Calls Tryd.prog _ _ W _ := write_c (x := y) (l := m) hyk (by omega) ((M.sees hW).oldL L0) ((M.sees hW).oldR R0_0 L0); rw [(writeX_over hr ho).1, (writeX_over hr ho).2] at h9; with_reducible exact h9) ?_
    simp only [putT, List.set]
    refine wpV_move (v := .tuple #[.agg ([.int .u32 ((zeroX.h.a : Nat) : Int), .int .u32 ((zeroX.h.b : Nat) : Int), .int .u32 ((zeroX.h.c : Nat) : Int), .int .u32 ((zeroX.h.d : Nat) : Int), .int .u32 ((zeroX.h.e : Nat) : Int), .int .u32 ((zeroX.h.f : Nat) : Int), .int .u32 ((zeroX.h.g : Nat) : Int), .int .u32 ((zeroX.h.h : Nat) : Int)] ++ [.string (bs zeroX.b)] ++ [.int .u64 ((zeroX.n : Nat) : Int)] : List Value).toArray, .int .i64 2]) (by rfl) rfl rfl ?_
    simp only [putT, List.set]
    refine wpV_extract (v := .agg ([.int .u32 ((zeroX.h.a : Nat) : Int), .int .u32 ((zeroX.h.b : Nat) : Int), .int .u32 ((zeroX.h.c : Nat) : Int), .int .u32 ((zeroX.h.d : Nat) : Int), .int .u32 ((zeroX.h.e : Nat) : Int), .int .u32 ((zeroX.h.f : Nat) : Int), .int .u32 ((zeroX.h.g : Nat) : Int), .int .u32 ((zeroX.h.h : Nat) : Int)] ++ [.string (bs zeroX.b)] ++ [.int .u64 ((zeroX.n : Nat) : Int)] : List Value).toArray) (by rfl) rfl rfl rfl ?_
    simp only [putT, List.set]
    refine wpV_extract (v := .int .i64 2) (by rfl) rfl rfl rfl ?_
    simp only [putT, List.set]
    refine wpV_nil (hLk _ (fun w32 Sw32 => ?_))
    clear hLk Lk
    simp only [List.take, List.drop]
    replace M := M.sees Sw32
    refine wpL_var (t := 29) (cs := [.int .u32 0, .int .u32 0, .int .u32 0, .int .u32 0, .int .u32 0, .int .u32 0, .int .u32 0, .int .u32 0, .string { data := #[] }, .int .u64 0]) (by rfl) (fun W => ?_) (fun g33 w34 Sw34 Hg33 Bg33 => ?_)
    · go_simp
    replace M := ((M.sees Sw34).addS (N := 10) (cs := [.int .u32 0, .int .u32 0, .int .u32 0, .int .u32 0, .int .u32 0, .int .u32 0, .int .u32 0, .int .u32 0, .string { data := #[] }, .int .u64 0]) (segs := [(0, [.int .u32 0, .int .u32 0, .int .u32 0, .int .u32 0, .int .u32 0, .int .u32 0, .int .u32 0, .int .u32 0]), (8, [.string { data := #[] }]), (9, [.int .u64 0])]) (M.ge Hg33) (M.fresh Hg33) Bg33 rfl ⟨rfl, rfl, rfl, trivial⟩)
    clear Bg33
    simp only [putT, List.set]
    refine wpL_store (g := g33) (off := 0) (n := 10) (cs := [.int .u32 ((zeroX.h.a : Nat) : Int), .int .u32 ((zeroX.h.b : Nat) : Int), .int .u32 ((zeroX.h.c : Nat) : Int), .int .u32 ((zeroX.h.d : Nat) : Int), .int .u32 ((zeroX.h.e : Nat) : Int), .int .u32 ((zeroX.h.f : Nat) : Int), .int .u32 ((zeroX.h.g : Nat) : Int), .int .u32 ((zeroX.h.h : Nat) : Int)] ++ [.string (bs zeroX.b)] ++ [.int .u64 ((zeroX.n : Nat) : Int)]) (by rfl) (by rfl) (by rfl) (by rfl) (by rfl) (M.t 0 rfl) (by simp [flen]) info29 (by simp [fone, Value.oneCell']) (fun w35 P R T => ?_)
    replace M := M.put (segs' := [(0, [.int .u32 ((zeroX.h.a : Nat) : Int), .int .u32 ((zeroX.h.b : Nat) : Int), .int .u32 ((zeroX.h.c : Nat) : Int), .int .u32 ((zeroX.h.d : Nat) : Int), .int .u32 ((zeroX.h.e : Nat) : Int), .int .u32 ((zeroX.h.f : Nat) : Int), .int .u32 ((zeroX.h.g : Nat) : Int), .int .u32 ((zeroX.h.h : Nat) : Int)]), (8, [.string (bs zeroX.b)]), (9, [.int .u64 ((zeroX.n : Nat) : Int)])]) 0 rfl P T (SegsOf.at R ⟨rfl, rfl, rfl, trivial⟩)
    simp only [List.set] at M
    refine wpL_assign (v := .int .i64 2) (by rfl) (by rfl) (by rfl) ?_
    simp only [putT, List.set]
    refine wpL_nil (no_panic ?_)
    refine hK11 _ _ ?_
    refine wp_seq_k (fun K36 hK36 => ?_)
    refine wp_region_seq ?_
    refine wpL_chunk 5 (by rfl) (fun Lk hLk => ?_)
    simp only [List.take, List.drop]
    refine wpV_load (cs := [.int .u32 ((y.h.a : Nat) : Int), .int .u32 ((y.h.b : Nat) : Int), .int .u32 ((y.h.c : Nat) : Int), .int .u32 ((y.h.d : Nat) : Int), .int .u32 ((y.h.e : Nat) : Int), .int .u32 ((y.h.f : Nat) : Int), .int .u32 ((y.h.g : Nat) : Int), .int .u32 ((y.h.h : Nat) : Int)] ++ [.string (bs y.b)] ++ [.int .u64 ((y.n : Nat) : Int)]) (by rfl) rfl rfl (range_join (range_join (M.r 1 0 rfl rfl) (M.r 1 1 rfl rfl) (by simp [flen])) (M.r 1 2 rfl rfl) (by simp [flen])) (M.lt 1 rfl) Tryd.underlying29 rfl info29 ?_
    simp only [putT, List.set]
    refine wpV_callf (v := .tuple #[.string (bs (endL y.h y.b y.n)), .int .i64 0]) (args := #[.agg ([.int .u32 ((y.h.a : Nat) : Int), .int .u32 ((y.h.b : Nat) : Int), .int .u32 ((y.h.c : Nat) : Int), .int .u32 ((y.h.d : Nat) : Int), .int .u32 ((y.h.e : Nat) : Int), .int .u32 ((y.h.f : Nat) : Int), .int .u32 ((y.h.g : Nat) : Int), .int .u32 ((y.h.h : Nat) : Int)] ++ [.string (bs y.b)] ++ [.int .u64 ((y.n : Nat) : Int)] : List Value).toArray]) (by rfl) rfl Tryd.func31 (by kernel_rfl) (by kernel_rfl) rfl (fun W hW => by have h9 : Calls Tryd.prog _ _ W _ := End_c (x := y) hyk ((M.sees hW).oldL L0) ((M.sees hW).oldR R0_0 L0); rw [(endT_yes hr).1, (endT_yes hr).2] at h9; with_reducible exact h9) ?_
    simp only [putT, List.set]
    refine wpV_move (v := .tuple #[.string (bs (endL y.h y.b y.n)), .int .i64 0]) (by rfl) rfl rfl ?_
    simp only [putT, List.set]
    refine wpV_extract (v := .string (bs (endL y.h y.b y.n))) (by rfl) rfl rfl rfl ?_
    simp only [putT, List.set]
    refine wpV_extract (v := .int .i64 0) (by rfl) rfl rfl rfl ?_
    simp only [putT, List.set]
    refine wpV_nil (hLk _ (fun w38 Sw38 => ?_))
    clear hLk Lk
    simp only [List.take, List.drop]
    replace M := M.sees Sw38
    refine wpL_assign (v := .string (bs (endL y.h y.b y.n))) (by rfl) (by rfl) (by rfl) ?_
    simp only [putT, List.set]
    refine wpL_assign (v := .int .i64 0) (by rfl) (by rfl) (by rfl) ?_
    simp only [putT, List.set]
    refine wpL_nil (no_panic ?_)
    refine hK36 _ _ ?_
    refine wp_seq_k (fun K39 hK39 => ?_)
    refine wp_seq_k (fun K40 hK40 => ?_)
    refine wp_region_grow 9 [] (by kernel_rfl) (by kernel_rfl) (by kernel_rfl) (fun Lk hLk => ?_)
    simp only [List.take, List.drop]
    refine wpV_load (cs := [.int .u32 ((y.h.a : Nat) : Int), .int .u32 ((y.h.b : Nat) : Int), .int .u32 ((y.h.c : Nat) : Int), .int .u32 ((y.h.d : Nat) : Int), .int .u32 ((y.h.e : Nat) : Int), .int .u32 ((y.h.f : Nat) : Int), .int .u32 ((y.h.g : Nat) : Int), .int .u32 ((y.h.h : Nat) : Int)] ++ [.string (bs y.b)] ++ [.int .u64 ((y.n : Nat) : Int)]) (by rfl) rfl rfl (range_join (range_join (M.r 1 0 rfl rfl) (M.r 1 1 rfl rfl) (by simp [flen])) (M.r 1 2 rfl rfl) (by simp [flen])) (M.lt 1 rfl) Tryd.underlying29 rfl info29 ?_
    simp only [putT, List.set]
    refine wpV_callf (v := .bool true) (args := #[.agg ([.int .u32 ((y.h.a : Nat) : Int), .int .u32 ((y.h.b : Nat) : Int), .int .u32 ((y.h.c : Nat) : Int), .int .u32 ((y.h.d : Nat) : Int), .int .u32 ((y.h.e : Nat) : Int), .int .u32 ((y.h.f : Nat) : Int), .int .u32 ((y.h.g : Nat) : Int), .int .u32 ((y.h.h : Nat) : Int)] ++ [.string (bs y.b)] ++ [.int .u64 ((y.n : Nat) : Int)] : List Value).toArray]) (by rfl) rfl Tryd.func32 (by kernel_rfl) (by kernel_rfl) rfl (fun W hW => by have h9 : Calls Tryd.prog _ _ W _ := xright_c (x := y) hyk; rw [hr] at h9; exact h9) ?_
    simp only [putT, List.set]
    refine wpV_load (cs := [.int .u32 ((y.h.a : Nat) : Int), .int .u32 ((y.h.b : Nat) : Int), .int .u32 ((y.h.c : Nat) : Int), .int .u32 ((y.h.d : Nat) : Int), .int .u32 ((y.h.e : Nat) : Int), .int .u32 ((y.h.f : Nat) : Int), .int .u32 ((y.h.g : Nat) : Int), .int .u32 ((y.h.h : Nat) : Int)] ++ [.string (bs y.b)] ++ [.int .u64 ((y.n : Nat) : Int)]) (by rfl) rfl rfl (range_join (range_join (M.r 1 0 rfl rfl) (M.r 1 1 rfl rfl) (by simp [flen])) (M.r 1 2 rfl rfl) (by simp [flen])) (M.lt 1 rfl) Tryd.underlying29 rfl info29 ?_
    simp only [putT, List.set]
    refine wpV_callf (v := .bool true) (args := #[.agg ([.int .u32 ((y.h.a : Nat) : Int), .int .u32 ((y.h.b : Nat) : Int), .int .u32 ((y.h.c : Nat) : Int), .int .u32 ((y.h.d : Nat) : Int), .int .u32 ((y.h.e : Nat) : Int), .int .u32 ((y.h.f : Nat) : Int), .int .u32 ((y.h.g : Nat) : Int), .int .u32 ((y.h.h : Nat) : Int)] ++ [.string (bs y.b)] ++ [.int .u64 ((y.n : Nat) : Int)] : List Value).toArray]) (by rfl) rfl Tryd.func33 (by kernel_rfl) (by kernel_rfl) rfl (fun W hW => by have h9 : Calls Tryd.prog _ _ W _ := rxright_c (x := y) hyk; rw [hr] at h9; exact h9) ?_
    simp only [putT, List.set]
    refine wpV_val (v := .bool false) (by rfl) (by rfl) (fun W hW => ?_) ?_
    · (go_simp; exact rfl)
    simp only [putT, List.set]
    refine wpV_move (v := .bool false) (by rfl) rfl rfl ?_
    simp only [putT, List.set]
    refine wpV_callf (v := .bool true) (args := #[]) (by rfl) rfl Tryd.func19 (by kernel_rfl) (by kernel_rfl) rfl (fun W hW => alive02_c ((M.sees hW).oldL L0) ((M.sees hW).oldR R0_0 L0)) ?_
    simp only [putT, List.set]
    refine wpV_not (b := true) (by rfl) rfl rfl ?_
    simp only [Bool.not_true, Bool.not_false]
    simp only [putT, List.set]
    refine wpV_pick (v := .bool false) (by rfl) rfl rfl rfl ?_
    simp only [putT, List.set]
    refine wpV_nil (hLk.out _ ?_)
    clear hLk Lk
    simp only [List.take, List.drop]
    iterate 9 refine wpN_skip (by rfl) ?_
    refine wpN_nil (fun w42 Sw42 hbs => ?_)
    clear hbs
    replace M := M.sees Sw42
    refine wpL_nil (no_panic ?_)
    refine hK40 _ _ ?_
    refine wp_cond_false rfl ?_
    refine wp_skip ?_
    refine hK39 _ _ ?_
    refine wp_seq_k (fun K43 hK43 => ?_)
    refine wp_seq_k (fun K44 hK44 => ?_)
    refine wp_region_seq ?_
    refine wpL_chunk 3 (by rfl) (fun Lk hLk => ?_)
    simp only [List.take, List.drop]
    refine wpV_load (cs := [.int .u32 ((y.h.a : Nat) : Int), .int .u32 ((y.h.b : Nat) : Int), .int .u32 ((y.h.c : Nat) : Int), .int .u32 ((y.h.d : Nat) : Int), .int .u32 ((y.h.e : Nat) : Int), .int .u32 ((y.h.f : Nat) : Int), .int .u32 ((y.h.g : Nat) : Int), .int .u32 ((y.h.h : Nat) : Int)] ++ [.string (bs y.b)] ++ [.int .u64 ((y.n : Nat) : Int)]) (by rfl) rfl rfl (range_join (range_join (M.r 1 0 rfl rfl) (M.r 1 1 rfl rfl) (by simp [flen])) (M.r 1 2 rfl rfl) (by simp [flen])) (M.lt 1 rfl) Tryd.underlying29 rfl info29 ?_
    simp only [putT, List.set]
    refine wpV_callf (v := .bool true) (args := #[.agg ([.int .u32 ((y.h.a : Nat) : Int), .int .u32 ((y.h.b : Nat) : Int), .int .u32 ((y.h.c : Nat) : Int), .int .u32 ((y.h.d : Nat) : Int), .int .u32 ((y.h.e : Nat) : Int), .int .u32 ((y.h.f : Nat) : Int), .int .u32 ((y.h.g : Nat) : Int), .int .u32 ((y.h.h : Nat) : Int)] ++ [.string (bs y.b)] ++ [.int .u64 ((y.n : Nat) : Int)] : List Value).toArray]) (by rfl) rfl Tryd.func33 (by kernel_rfl) (by kernel_rfl) rfl (fun W hW => by have h9 : Calls Tryd.prog _ _ W _ := rxright_c (x := y) hyk; rw [hr] at h9; exact h9) ?_
    simp only [putT, List.set]
    refine wpV_not (b := true) (by rfl) rfl rfl ?_
    simp only [Bool.not_true, Bool.not_false]
    simp only [putT, List.set]
    refine wpV_nil (hLk _ (fun w46 Sw46 => ?_))
    clear hLk Lk
    simp only [List.take, List.drop]
    replace M := M.sees Sw46
    refine wpL_nil (no_panic ?_)
    refine hK44 _ _ ?_
    refine wp_cond_false rfl ?_
    refine wp_skip ?_
    refine hK43 _ _ ?_
    refine wp_seq_k (fun K47 hK47 => ?_)
    refine wp_seq_k (fun K48 hK48 => ?_)
    refine wp_region_seq ?_
    refine wpL_move (v := .int .i64 0) (by rfl) (by rfl) (by rfl) ?_
    simp only [putT, List.set]
    refine wpL_chunk 7 (by rfl) (fun Lk hLk => ?_)
    simp only [List.take, List.drop]
    refine wpV_bin (v := .bool false) (by rfl) rfl rfl rfl (fun W => run_neq _ _ _ _ W) ?_
    simp only [putT, List.set]
    refine wpV_move (v := .bool false) (by rfl) rfl rfl ?_
    simp only [putT, List.set]
    refine wpV_move (v := .string (bs (endL y.h y.b y.n))) (by rfl) rfl rfl ?_
    simp only [putT, List.set]
    refine wpV_load (cs := [.int .u32 ((y.h.a : Nat) : Int), .int .u32 ((y.h.b : Nat) : Int), .int .u32 ((y.h.c : Nat) : Int), .int .u32 ((y.h.d : Nat) : Int), .int .u32 ((y.h.e : Nat) : Int), .int .u32 ((y.h.f : Nat) : Int), .int .u32 ((y.h.g : Nat) : Int), .int .u32 ((y.h.h : Nat) : Int)] ++ [.string (bs y.b)] ++ [.int .u64 ((y.n : Nat) : Int)]) (by rfl) rfl rfl (range_join (range_join (M.r 1 0 rfl rfl) (M.r 1 1 rfl rfl) (by simp [flen])) (M.r 1 2 rfl rfl) (by simp [flen])) (M.lt 1 rfl) Tryd.underlying29 rfl info29 ?_
    simp only [putT, List.set]
    refine wpV_callf (v := .string (bs (endL y.h y.b y.n))) (args := #[.agg ([.int .u32 ((y.h.a : Nat) : Int), .int .u32 ((y.h.b : Nat) : Int), .int .u32 ((y.h.c : Nat) : Int), .int .u32 ((y.h.d : Nat) : Int), .int .u32 ((y.h.e : Nat) : Int), .int .u32 ((y.h.f : Nat) : Int), .int .u32 ((y.h.g : Nat) : Int), .int .u32 ((y.h.h : Nat) : Int)] ++ [.string (bs y.b)] ++ [.int .u64 ((y.n : Nat) : Int)] : List Value).toArray]) (by rfl) rfl Tryd.func34 (by kernel_rfl) (by kernel_rfl) rfl (fun W hW => by with_reducible exact rend_c (h := y.h) (b := y.b) (n := y.n) hyk.h hr1) ?_
    simp only [putT, List.set]
    refine wpV_binS (v := .bool false) (by rfl) rfl rfl rfl (fun W => (run_neq_bs _ _ _ W).trans (by rw [show decide (endL y.h y.b y.n ≠ endL y.h y.b y.n) = false from (decide_eq_false (fun h9 => h9 rfl))])) ?_
    simp only [putT, List.set]
    refine wpV_pick (v := .bool false) (by rfl) rfl rfl rfl ?_
    simp only [putT, List.set]
    refine wpV_nil (hLk _ (fun w50 Sw50 => ?_))
    clear hLk Lk
    simp only [List.take, List.drop]
    replace M := M.sees Sw50
    refine wpL_nil (no_panic ?_)
    refine hK48 _ _ ?_
    refine wp_cond_false rfl ?_
    refine wp_skip ?_
    refine hK47 _ _ ?_
    refine wp_seq_k (fun K51 hK51 => ?_)
    refine wp_seq_k (fun K52 hK52 => ?_)
    refine wp_region_seq ?_
    refine wpL_chunk 7 (by rfl) (fun Lk hLk => ?_)
    simp only [List.take, List.drop]
    refine wpV_val (v := .pointer (some ⟨g3, 9, none⟩)) (by rfl) (by rfl) (fun W hW => ?_) ?_
    · (go_simp; exact rfl)
    simp only [putT, List.set]
    refine wpV_load1 (v := .int .u64 ((y.n : Nat) : Int)) (by rfl) rfl rfl (range_one (M.r 1 2 rfl rfl)) (M.lt 1 rfl) Tryd.underlying27 rfl ?_
    simp only [putT, List.set]
    refine wpV_move (v := .string (bs m)) (by rfl) rfl rfl ?_
    simp only [putT, List.set]
    refine wpV_lenS (by rfl) rfl rfl rfl Tryd.underlying9 ?_
    simp only [putT, List.set]
    refine wpV_conv (d := .bool) (e := ((m.length : Nat) : Int)) (by rfl) rfl rfl (run_conv_int Tryd.underlying3 Tryd.underlying27 ((wrap64N _).trans (congrArg _ (Nat.mod_eq_of_lt (by omega))))) ?_
    simp only [putT, List.set]
    refine wpV_bin (v := .int .u64 (((y.n + m.length) % 18446744073709551616 : Nat) : Int)) (by rfl) rfl rfl rfl (fun W => nr_add64 _ y.n m.length W) ?_
    simp only [putT, List.set]
    refine wpV_bin (v := .bool true) (by rfl) rfl rfl rfl (fun W => (run_gtrN ((y.n + m.length) % 18446744073709551616) 1099511627776 _ _ W).trans (by rw [hov])) ?_
    simp only [putT, List.set]
    refine wpV_nil (hLk _ (fun w54 Sw54 => ?_))
    clear hLk Lk
    simp only [List.take, List.drop]
    replace M := M.sees Sw54
    refine wpL_nil (no_panic ?_)
    refine hK52 _ _ ?_
    refine wp_cond_true rfl ?_
    refine wp_seq_k (fun K55 hK55 => ?_)
    refine wp_region_seq ?_
    refine wpL_move (v := .int .i64 2) (by rfl) (by rfl) (by rfl) ?_
    simp only [putT, List.set]
    refine wpL_chunk 6 (by rfl) (fun Lk hLk => ?_)
    simp only [List.take, List.drop]
    refine wpV_bin (v := .bool true) (by rfl) rfl rfl rfl (fun W => run_eql _ _ _ _ W) ?_
    simp only [putT, List.set]
    refine wpV_move (v := .bool true) (by rfl) rfl rfl ?_
    simp only [putT, List.set]
    refine wpV_load (cs := [.int .u32 ((zeroX.h.a : Nat) : Int), .int .u32 ((zeroX.h.b : Nat) : Int), .int .u32 ((zeroX.h.c : Nat) : Int), .int .u32 ((zeroX.h.d : Nat) : Int), .int .u32 ((zeroX.h.e : Nat) : Int), .int .u32 ((zeroX.h.f : Nat) : Int), .int .u32 ((zeroX.h.g : Nat) : Int), .int .u32 ((zeroX.h.h : Nat) : Int)] ++ [.string (bs zeroX.b)] ++ [.int .u64 ((zeroX.n : Nat) : Int)]) (by rfl) rfl rfl (range_join (range_join (M.r 0 0 rfl rfl) (M.r 0 1 rfl rfl) (by simp [flen])) (M.r 0 2 rfl rfl) (by simp [flen])) (M.lt 0 rfl) Tryd.underlying29 rfl info29 ?_
    simp only [putT, List.set]
    refine wpV_val (v := .agg ([.int .u32 0, .int .u32 0, .int .u32 0, .int .u32 0, .int .u32 0, .int .u32 0, .int .u32 0, .int .u32 0, .string { data := #[] }, .int .u64 0]).toArray) (by rfl) (by rfl) (fun W hW => ?_) ?_
    · (unfold RunsVal; kernel_rfl)
    simp only [putT, List.set]
    refine wpV_eqlT (k := 3) (u := [Value.int .u32 ((zeroX.h.a : Nat) : Int), Value.int .u32 ((zeroX.h.b : Nat) : Int), Value.int .u32 ((zeroX.h.c : Nat) : Int), Value.int .u32 ((zeroX.h.d : Nat) : Int), Value.int .u32 ((zeroX.h.e : Nat) : Int), Value.int .u32 ((zeroX.h.f : Nat) : Int), Value.int .u32 ((zeroX.h.g : Nat) : Int), Value.int .u32 ((zeroX.h.h : Nat) : Int)] ++ [Value.string (bs zeroX.b)] ++ [Value.int .u64 ((zeroX.n : Nat) : Int)]) (v := [Value.int .u32 0, Value.int .u32 0, Value.int .u32 0, Value.int .u32 0, Value.int .u32 0, Value.int .u32 0, Value.int .u32 0, Value.int .u32 0, Value.string { data := #[] }, Value.int .u64 0]) (b := true) (by rfl) rfl rfl rfl (by kernel_rfl) eq_sum_zero (by decide) ?_
    simp only [putT, List.set]
    refine wpV_pick (v := .bool true) (by rfl) rfl rfl rfl ?_
    simp only [putT, List.set]
    refine wpV_nil (hLk _ (fun w57 Sw57 => ?_))
    clear hLk Lk
    simp only [List.take, List.drop]
    replace M := M.sees Sw57
    refine wpL_assign (v := .bool true) (by rfl) (by rfl) (by rfl) ?_
    simp only [putT, List.set]
    refine wpL_nil (no_panic ?_)
    refine hK55 _ _ ?_
    refine wp_ret ?_
    repeat (first | with_reducible refine then_ret ?_ | with_reducible refine inblock_ret ?_)
    refine bodyPost_ret (v := .bool true) (res1 rfl (.tmp (by rfl))) rfl ?_
    have BE := M.below
    exact ⟨rfl, BE⟩
  · skip
    obtain ⟨hr1, hr2, hr3⟩ := right_open hr
    have hov : decide (1099511627776 < (y.n + m.length) % 18446744073709551616) = false := by have := of_decide_eq_false ho; exact decide_eq_false (by omega)
    refine wp_region_seq ?_
    refine wpL_chunk 6 (by rfl) (fun Lk hLk => ?_)
    simp only [List.take, List.drop]
    refine wpV_load (cs := [.int .u32 ((y.h.a : Nat) : Int), .int .u32 ((y.h.b : Nat) : Int), .int .u32 ((y.h.c : Nat) : Int), .int .u32 ((y.h.d : Nat) : Int), .int .u32 ((y.h.e : Nat) : Int), .int .u32 ((y.h.f : Nat) : Int), .int .u32 ((y.h.g : Nat) : Int), .int .u32 ((y.h.h : Nat) : Int)] ++ [.string (bs y.b)] ++ [.int .u64 ((y.n : Nat) : Int)]) (by rfl) rfl rfl (range_join (range_join (M.r 0 0 rfl rfl) (M.r 0 1 rfl rfl) (by simp [flen])) (M.r 0 2 rfl rfl) (by simp [flen])) (M.lt 0 rfl) Tryd.underlying29 rfl info29 ?_
    simp only [putT, List.set]
    refine wpV_move (v := .string (bs m)) (by rfl) rfl rfl ?_
    simp only [putT, List.set]
    refine wpV_callf (v := .tuple #[.agg ([.int .u32 (((goX y m).h.a : Nat) : Int), .int .u32 (((goX y m).h.b : Nat) : Int), .int .u32 (((goX y m).h.c : Nat) : Int), .int .u32 (((goX y m).h.d : Nat) : Int), .int .u32 (((goX y m).h.e : Nat) : Int), .int .u32 (((goX y m).h.f : Nat) : Int), .int .u32 (((goX y m).h.g : Nat) : Int), .int .u32 (((goX y m).h.h : Nat) : Int)] ++ [.string (bs ((goX y m).b))] ++ [.int .u64 (((goX y m).n : Nat) : Int)] : List Value).toArray, .int .i64 0]) (args := #[.agg ([.int .u32 ((y.h.a : Nat) : Int), .int .u32 ((y.h.b : Nat) : Int), .int .u32 ((y.h.c : Nat) : Int), .int .u32 ((y.h.d : Nat) : Int), .int .u32 ((y.h.e : Nat) : Int), .int .u32 ((y.h.f : Nat) : Int), .int .u32 ((y.h.g : Nat) : Int), .int .u32 ((y.h.h : Nat) : Int)] ++ [.string (bs y.b)] ++ [.int .u64 ((y.n : Nat) : Int)] : List Value).toArray, .string (bs m)]) (by rfl) rfl Tryd.func29 (by kernel_rfl) (by kernel_rfl) rfl (fun W hW => by have h9 : Calls Tryd.prog _ _ W _ := write_c (x := y) (l := m) hyk (by omega) ((M.sees hW).oldL L0) ((M.sees hW).oldR R0_0 L0); rw [(writeX_go hr ho).1, (writeX_go hr ho).2] at h9; with_reducible exact h9) ?_
    simp only [putT, List.set]
    refine wpV_move (v := .tuple #[.agg ([.int .u32 (((goX y m).h.a : Nat) : Int), .int .u32 (((goX y m).h.b : Nat) : Int), .int .u32 (((goX y m).h.c : Nat) : Int), .int .u32 (((goX y m).h.d : Nat) : Int), .int .u32 (((goX y m).h.e : Nat) : Int), .int .u32 (((goX y m).h.f : Nat) : Int), .int .u32 (((goX y m).h.g : Nat) : Int), .int .u32 (((goX y m).h.h : Nat) : Int)] ++ [.string (bs ((goX y m).b))] ++ [.int .u64 (((goX y m).n : Nat) : Int)] : List Value).toArray, .int .i64 0]) (by rfl) rfl rfl ?_
    simp only [putT, List.set]
    refine wpV_extract (v := .agg ([.int .u32 (((goX y m).h.a : Nat) : Int), .int .u32 (((goX y m).h.b : Nat) : Int), .int .u32 (((goX y m).h.c : Nat) : Int), .int .u32 (((goX y m).h.d : Nat) : Int), .int .u32 (((goX y m).h.e : Nat) : Int), .int .u32 (((goX y m).h.f : Nat) : Int), .int .u32 (((goX y m).h.g : Nat) : Int), .int .u32 (((goX y m).h.h : Nat) : Int)] ++ [.string (bs ((goX y m).b))] ++ [.int .u64 (((goX y m).n : Nat) : Int)] : List Value).toArray) (by rfl) rfl rfl rfl ?_
    simp only [putT, List.set]
    refine wpV_extract (v := .int .i64 0) (by rfl) rfl rfl rfl ?_
    simp only [putT, List.set]
    refine wpV_nil (hLk _ (fun w59 Sw59 => ?_))
    clear hLk Lk
    simp only [List.take, List.drop]
    replace M := M.sees Sw59
    refine wpL_var (t := 29) (cs := [.int .u32 0, .int .u32 0, .int .u32 0, .int .u32 0, .int .u32 0, .int .u32 0, .int .u32 0, .int .u32 0, .string { data := #[] }, .int .u64 0]) (by rfl) (fun W => ?_) (fun g60 w61 Sw61 Hg60 Bg60 => ?_)
    · go_simp
    replace M := ((M.sees Sw61).addS (N := 10) (cs := [.int .u32 0, .int .u32 0, .int .u32 0, .int .u32 0, .int .u32 0, .int .u32 0, .int .u32 0, .int .u32 0, .string { data := #[] }, .int .u64 0]) (segs := [(0, [.int .u32 0, .int .u32 0, .int .u32 0, .int .u32 0, .int .u32 0, .int .u32 0, .int .u32 0, .int .u32 0]), (8, [.string { data := #[] }]), (9, [.int .u64 0])]) (M.ge Hg60) (M.fresh Hg60) Bg60 rfl ⟨rfl, rfl, rfl, trivial⟩)
    clear Bg60
    simp only [putT, List.set]
    refine wpL_store (g := g60) (off := 0) (n := 10) (cs := [.int .u32 (((goX y m).h.a : Nat) : Int), .int .u32 (((goX y m).h.b : Nat) : Int), .int .u32 (((goX y m).h.c : Nat) : Int), .int .u32 (((goX y m).h.d : Nat) : Int), .int .u32 (((goX y m).h.e : Nat) : Int), .int .u32 (((goX y m).h.f : Nat) : Int), .int .u32 (((goX y m).h.g : Nat) : Int), .int .u32 (((goX y m).h.h : Nat) : Int)] ++ [.string (bs ((goX y m).b))] ++ [.int .u64 (((goX y m).n : Nat) : Int)]) (by rfl) (by rfl) (by rfl) (by rfl) (by rfl) (M.t 0 rfl) (by simp [flen]) info29 (by simp [fone, Value.oneCell']) (fun w62 P R T => ?_)
    replace M := M.put (segs' := [(0, [.int .u32 (((goX y m).h.a : Nat) : Int), .int .u32 (((goX y m).h.b : Nat) : Int), .int .u32 (((goX y m).h.c : Nat) : Int), .int .u32 (((goX y m).h.d : Nat) : Int), .int .u32 (((goX y m).h.e : Nat) : Int), .int .u32 (((goX y m).h.f : Nat) : Int), .int .u32 (((goX y m).h.g : Nat) : Int), .int .u32 (((goX y m).h.h : Nat) : Int)]), (8, [.string (bs ((goX y m).b))]), (9, [.int .u64 (((goX y m).n : Nat) : Int)])]) 0 rfl P T (SegsOf.at R ⟨rfl, rfl, rfl, trivial⟩)
    simp only [List.set] at M
    refine wpL_assign (v := .int .i64 0) (by rfl) (by rfl) (by rfl) ?_
    simp only [putT, List.set]
    refine wpL_nil (no_panic ?_)
    refine hK11 _ _ ?_
    refine wp_seq_k (fun K63 hK63 => ?_)
    refine wp_region_seq ?_
    refine wpL_chunk 5 (by rfl) (fun Lk hLk => ?_)
    simp only [List.take, List.drop]
    refine wpV_load (cs := [.int .u32 ((y.h.a : Nat) : Int), .int .u32 ((y.h.b : Nat) : Int), .int .u32 ((y.h.c : Nat) : Int), .int .u32 ((y.h.d : Nat) : Int), .int .u32 ((y.h.e : Nat) : Int), .int .u32 ((y.h.f : Nat) : Int), .int .u32 ((y.h.g : Nat) : Int), .int .u32 ((y.h.h : Nat) : Int)] ++ [.string (bs y.b)] ++ [.int .u64 ((y.n : Nat) : Int)]) (by rfl) rfl rfl (range_join (range_join (M.r 1 0 rfl rfl) (M.r 1 1 rfl rfl) (by simp [flen])) (M.r 1 2 rfl rfl) (by simp [flen])) (M.lt 1 rfl) Tryd.underlying29 rfl info29 ?_
    simp only [putT, List.set]
    refine wpV_callf (v := .tuple #[.string (bs (endL y.h y.b y.n)), .int .i64 0]) (args := #[.agg ([.int .u32 ((y.h.a : Nat) : Int), .int .u32 ((y.h.b : Nat) : Int), .int .u32 ((y.h.c : Nat) : Int), .int .u32 ((y.h.d : Nat) : Int), .int .u32 ((y.h.e : Nat) : Int), .int .u32 ((y.h.f : Nat) : Int), .int .u32 ((y.h.g : Nat) : Int), .int .u32 ((y.h.h : Nat) : Int)] ++ [.string (bs y.b)] ++ [.int .u64 ((y.n : Nat) : Int)] : List Value).toArray]) (by rfl) rfl Tryd.func31 (by kernel_rfl) (by kernel_rfl) rfl (fun W hW => by have h9 : Calls Tryd.prog _ _ W _ := End_c (x := y) hyk ((M.sees hW).oldL L0) ((M.sees hW).oldR R0_0 L0); rw [(endT_yes hr).1, (endT_yes hr).2] at h9; with_reducible exact h9) ?_
    simp only [putT, List.set]
    refine wpV_move (v := .tuple #[.string (bs (endL y.h y.b y.n)), .int .i64 0]) (by rfl) rfl rfl ?_
    simp only [putT, List.set]
    refine wpV_extract (v := .string (bs (endL y.h y.b y.n))) (by rfl) rfl rfl rfl ?_
    simp only [putT, List.set]
    refine wpV_extract (v := .int .i64 0) (by rfl) rfl rfl rfl ?_
    simp only [putT, List.set]
    refine wpV_nil (hLk _ (fun w65 Sw65 => ?_))
    clear hLk Lk
    simp only [List.take, List.drop]
    replace M := M.sees Sw65
    refine wpL_assign (v := .string (bs (endL y.h y.b y.n))) (by rfl) (by rfl) (by rfl) ?_
    simp only [putT, List.set]
    refine wpL_assign (v := .int .i64 0) (by rfl) (by rfl) (by rfl) ?_
    simp only [putT, List.set]
    refine wpL_nil (no_panic ?_)
    refine hK63 _ _ ?_
    refine wp_seq_k (fun K66 hK66 => ?_)
    refine wp_seq_k (fun K67 hK67 => ?_)
    refine wp_region_grow 9 [] (by kernel_rfl) (by kernel_rfl) (by kernel_rfl) (fun Lk hLk => ?_)
    simp only [List.take, List.drop]
    refine wpV_load (cs := [.int .u32 ((y.h.a : Nat) : Int), .int .u32 ((y.h.b : Nat) : Int), .int .u32 ((y.h.c : Nat) : Int), .int .u32 ((y.h.d : Nat) : Int), .int .u32 ((y.h.e : Nat) : Int), .int .u32 ((y.h.f : Nat) : Int), .int .u32 ((y.h.g : Nat) : Int), .int .u32 ((y.h.h : Nat) : Int)] ++ [.string (bs y.b)] ++ [.int .u64 ((y.n : Nat) : Int)]) (by rfl) rfl rfl (range_join (range_join (M.r 1 0 rfl rfl) (M.r 1 1 rfl rfl) (by simp [flen])) (M.r 1 2 rfl rfl) (by simp [flen])) (M.lt 1 rfl) Tryd.underlying29 rfl info29 ?_
    simp only [putT, List.set]
    refine wpV_callf (v := .bool true) (args := #[.agg ([.int .u32 ((y.h.a : Nat) : Int), .int .u32 ((y.h.b : Nat) : Int), .int .u32 ((y.h.c : Nat) : Int), .int .u32 ((y.h.d : Nat) : Int), .int .u32 ((y.h.e : Nat) : Int), .int .u32 ((y.h.f : Nat) : Int), .int .u32 ((y.h.g : Nat) : Int), .int .u32 ((y.h.h : Nat) : Int)] ++ [.string (bs y.b)] ++ [.int .u64 ((y.n : Nat) : Int)] : List Value).toArray]) (by rfl) rfl Tryd.func32 (by kernel_rfl) (by kernel_rfl) rfl (fun W hW => by have h9 : Calls Tryd.prog _ _ W _ := xright_c (x := y) hyk; rw [hr] at h9; exact h9) ?_
    simp only [putT, List.set]
    refine wpV_load (cs := [.int .u32 ((y.h.a : Nat) : Int), .int .u32 ((y.h.b : Nat) : Int), .int .u32 ((y.h.c : Nat) : Int), .int .u32 ((y.h.d : Nat) : Int), .int .u32 ((y.h.e : Nat) : Int), .int .u32 ((y.h.f : Nat) : Int), .int .u32 ((y.h.g : Nat) : Int), .int .u32 ((y.h.h : Nat) : Int)] ++ [.string (bs y.b)] ++ [.int .u64 ((y.n : Nat) : Int)]) (by rfl) rfl rfl (range_join (range_join (M.r 1 0 rfl rfl) (M.r 1 1 rfl rfl) (by simp [flen])) (M.r 1 2 rfl rfl) (by simp [flen])) (M.lt 1 rfl) Tryd.underlying29 rfl info29 ?_
    simp only [putT, List.set]
    refine wpV_callf (v := .bool true) (args := #[.agg ([.int .u32 ((y.h.a : Nat) : Int), .int .u32 ((y.h.b : Nat) : Int), .int .u32 ((y.h.c : Nat) : Int), .int .u32 ((y.h.d : Nat) : Int), .int .u32 ((y.h.e : Nat) : Int), .int .u32 ((y.h.f : Nat) : Int), .int .u32 ((y.h.g : Nat) : Int), .int .u32 ((y.h.h : Nat) : Int)] ++ [.string (bs y.b)] ++ [.int .u64 ((y.n : Nat) : Int)] : List Value).toArray]) (by rfl) rfl Tryd.func33 (by kernel_rfl) (by kernel_rfl) rfl (fun W hW => by have h9 : Calls Tryd.prog _ _ W _ := rxright_c (x := y) hyk; rw [hr] at h9; exact h9) ?_
    simp only [putT, List.set]
    refine wpV_val (v := .bool false) (by rfl) (by rfl) (fun W hW => ?_) ?_
    · (go_simp; exact rfl)
    simp only [putT, List.set]
    refine wpV_move (v := .bool false) (by rfl) rfl rfl ?_
    simp only [putT, List.set]
    refine wpV_callf (v := .bool true) (args := #[]) (by rfl) rfl Tryd.func19 (by kernel_rfl) (by kernel_rfl) rfl (fun W hW => alive02_c ((M.sees hW).oldL L0) ((M.sees hW).oldR R0_0 L0)) ?_
    simp only [putT, List.set]
    refine wpV_not (b := true) (by rfl) rfl rfl ?_
    simp only [Bool.not_true, Bool.not_false]
    simp only [putT, List.set]
    refine wpV_pick (v := .bool false) (by rfl) rfl rfl rfl ?_
    simp only [putT, List.set]
    refine wpV_nil (hLk.out _ ?_)
    clear hLk Lk
    simp only [List.take, List.drop]
    iterate 9 refine wpN_skip (by rfl) ?_
    refine wpN_nil (fun w69 Sw69 hbs => ?_)
    clear hbs
    replace M := M.sees Sw69
    refine wpL_nil (no_panic ?_)
    refine hK67 _ _ ?_
    refine wp_cond_false rfl ?_
    refine wp_skip ?_
    refine hK66 _ _ ?_
    refine wp_seq_k (fun K70 hK70 => ?_)
    refine wp_seq_k (fun K71 hK71 => ?_)
    refine wp_region_seq ?_
    refine wpL_chunk 3 (by rfl) (fun Lk hLk => ?_)
    simp only [List.take, List.drop]
    refine wpV_load (cs := [.int .u32 ((y.h.a : Nat) : Int), .int .u32 ((y.h.b : Nat) : Int), .int .u32 ((y.h.c : Nat) : Int), .int .u32 ((y.h.d : Nat) : Int), .int .u32 ((y.h.e : Nat) : Int), .int .u32 ((y.h.f : Nat) : Int), .int .u32 ((y.h.g : Nat) : Int), .int .u32 ((y.h.h : Nat) : Int)] ++ [.string (bs y.b)] ++ [.int .u64 ((y.n : Nat) : Int)]) (by rfl) rfl rfl (range_join (range_join (M.r 1 0 rfl rfl) (M.r 1 1 rfl rfl) (by simp [flen])) (M.r 1 2 rfl rfl) (by simp [flen])) (M.lt 1 rfl) Tryd.underlying29 rfl info29 ?_
    simp only [putT, List.set]
    refine wpV_callf (v := .bool true) (args := #[.agg ([.int .u32 ((y.h.a : Nat) : Int), .int .u32 ((y.h.b : Nat) : Int), .int .u32 ((y.h.c : Nat) : Int), .int .u32 ((y.h.d : Nat) : Int), .int .u32 ((y.h.e : Nat) : Int), .int .u32 ((y.h.f : Nat) : Int), .int .u32 ((y.h.g : Nat) : Int), .int .u32 ((y.h.h : Nat) : Int)] ++ [.string (bs y.b)] ++ [.int .u64 ((y.n : Nat) : Int)] : List Value).toArray]) (by rfl) rfl Tryd.func33 (by kernel_rfl) (by kernel_rfl) rfl (fun W hW => by have h9 : Calls Tryd.prog _ _ W _ := rxright_c (x := y) hyk; rw [hr] at h9; exact h9) ?_
    simp only [putT, List.set]
    refine wpV_not (b := true) (by rfl) rfl rfl ?_
    simp only [Bool.not_true, Bool.not_false]
    simp only [putT, List.set]
    refine wpV_nil (hLk _ (fun w73 Sw73 => ?_))
    clear hLk Lk
    simp only [List.take, List.drop]
    replace M := M.sees Sw73
    refine wpL_nil (no_panic ?_)
    refine hK71 _ _ ?_
    refine wp_cond_false rfl ?_
    refine wp_skip ?_
    refine hK70 _ _ ?_
    refine wp_seq_k (fun K74 hK74 => ?_)
    refine wp_seq_k (fun K75 hK75 => ?_)
    refine wp_region_seq ?_
    refine wpL_move (v := .int .i64 0) (by rfl) (by rfl) (by rfl) ?_
    simp only [putT, List.set]
    refine wpL_chunk 7 (by rfl) (fun Lk hLk => ?_)
    simp only [List.take, List.drop]
    refine wpV_bin (v := .bool false) (by rfl) rfl rfl rfl (fun W => run_neq _ _ _ _ W) ?_
    simp only [putT, List.set]
    refine wpV_move (v := .bool false) (by rfl) rfl rfl ?_
    simp only [putT, List.set]
    refine wpV_move (v := .string (bs (endL y.h y.b y.n))) (by rfl) rfl rfl ?_
    simp only [putT, List.set]
    refine wpV_load (cs := [.int .u32 ((y.h.a : Nat) : Int), .int .u32 ((y.h.b : Nat) : Int), .int .u32 ((y.h.c : Nat) : Int), .int .u32 ((y.h.d : Nat) : Int), .int .u32 ((y.h.e : Nat) : Int), .int .u32 ((y.h.f : Nat) : Int), .int .u32 ((y.h.g : Nat) : Int), .int .u32 ((y.h.h : Nat) : Int)] ++ [.string (bs y.b)] ++ [.int .u64 ((y.n : Nat) : Int)]) (by rfl) rfl rfl (range_join (range_join (M.r 1 0 rfl rfl) (M.r 1 1 rfl rfl) (by simp [flen])) (M.r 1 2 rfl rfl) (by simp [flen])) (M.lt 1 rfl) Tryd.underlying29 rfl info29 ?_
    simp only [putT, List.set]
    refine wpV_callf (v := .string (bs (endL y.h y.b y.n))) (args := #[.agg ([.int .u32 ((y.h.a : Nat) : Int), .int .u32 ((y.h.b : Nat) : Int), .int .u32 ((y.h.c : Nat) : Int), .int .u32 ((y.h.d : Nat) : Int), .int .u32 ((y.h.e : Nat) : Int), .int .u32 ((y.h.f : Nat) : Int), .int .u32 ((y.h.g : Nat) : Int), .int .u32 ((y.h.h : Nat) : Int)] ++ [.string (bs y.b)] ++ [.int .u64 ((y.n : Nat) : Int)] : List Value).toArray]) (by rfl) rfl Tryd.func34 (by kernel_rfl) (by kernel_rfl) rfl (fun W hW => by with_reducible exact rend_c (h := y.h) (b := y.b) (n := y.n) hyk.h hr1) ?_
    simp only [putT, List.set]
    refine wpV_binS (v := .bool false) (by rfl) rfl rfl rfl (fun W => (run_neq_bs _ _ _ W).trans (by rw [show decide (endL y.h y.b y.n ≠ endL y.h y.b y.n) = false from (decide_eq_false (fun h9 => h9 rfl))])) ?_
    simp only [putT, List.set]
    refine wpV_pick (v := .bool false) (by rfl) rfl rfl rfl ?_
    simp only [putT, List.set]
    refine wpV_nil (hLk _ (fun w77 Sw77 => ?_))
    clear hLk Lk
    simp only [List.take, List.drop]
    replace M := M.sees Sw77
    refine wpL_nil (no_panic ?_)
    refine hK75 _ _ ?_
    refine wp_cond_false rfl ?_
    refine wp_skip ?_
    refine hK74 _ _ ?_
    refine wp_seq_k (fun K78 hK78 => ?_)
    refine wp_seq_k (fun K79 hK79 => ?_)
    refine wp_region_seq ?_
    refine wpL_chunk 7 (by rfl) (fun Lk hLk => ?_)
    simp only [List.take, List.drop]
    refine wpV_val (v := .pointer (some ⟨g3, 9, none⟩)) (by rfl) (by rfl) (fun W hW => ?_) ?_
    · (go_simp; exact rfl)
    simp only [putT, List.set]
    refine wpV_load1 (v := .int .u64 ((y.n : Nat) : Int)) (by rfl) rfl rfl (range_one (M.r 1 2 rfl rfl)) (M.lt 1 rfl) Tryd.underlying27 rfl ?_
    simp only [putT, List.set]
    refine wpV_move (v := .string (bs m)) (by rfl) rfl rfl ?_
    simp only [putT, List.set]
    refine wpV_lenS (by rfl) rfl rfl rfl Tryd.underlying9 ?_
    simp only [putT, List.set]
    refine wpV_conv (d := .bool) (e := ((m.length : Nat) : Int)) (by rfl) rfl rfl (run_conv_int Tryd.underlying3 Tryd.underlying27 ((wrap64N _).trans (congrArg _ (Nat.mod_eq_of_lt (by omega))))) ?_
    simp only [putT, List.set]
    refine wpV_bin (v := .int .u64 (((y.n + m.length) % 18446744073709551616 : Nat) : Int)) (by rfl) rfl rfl rfl (fun W => nr_add64 _ y.n m.length W) ?_
    simp only [putT, List.set]
    refine wpV_bin (v := .bool false) (by rfl) rfl rfl rfl (fun W => (run_gtrN ((y.n + m.length) % 18446744073709551616) 1099511627776 _ _ W).trans (by rw [hov])) ?_
    simp only [putT, List.set]
    refine wpV_nil (hLk _ (fun w81 Sw81 => ?_))
    clear hLk Lk
    simp only [List.take, List.drop]
    replace M := M.sees Sw81
    refine wpL_nil (no_panic ?_)
    refine hK79 _ _ ?_
    refine wp_cond_false rfl ?_
    refine wp_skip ?_
    refine hK78 _ _ ?_
    refine wp_seq_k (fun K82 hK82 => ?_)
    refine wp_region_grow 9 [] (by kernel_rfl) (by kernel_rfl) (by kernel_rfl) (fun Lk hLk => ?_)
    simp only [List.take, List.drop]
    refine wpV_move (v := .int .i64 0) (by rfl) rfl rfl ?_
    simp only [putT, List.set]
    refine wpV_bin (v := .bool true) (by rfl) rfl rfl rfl (fun W => run_eql _ _ _ _ W) ?_
    simp only [putT, List.set]
    refine wpV_move (v := .bool true) (by rfl) rfl rfl ?_
    simp only [putT, List.set]
    refine wpV_load (cs := [.int .u32 (((goX y m).h.a : Nat) : Int), .int .u32 (((goX y m).h.b : Nat) : Int), .int .u32 (((goX y m).h.c : Nat) : Int), .int .u32 (((goX y m).h.d : Nat) : Int), .int .u32 (((goX y m).h.e : Nat) : Int), .int .u32 (((goX y m).h.f : Nat) : Int), .int .u32 (((goX y m).h.g : Nat) : Int), .int .u32 (((goX y m).h.h : Nat) : Int)] ++ [.string (bs ((goX y m).b))] ++ [.int .u64 (((goX y m).n : Nat) : Int)]) (by rfl) rfl rfl (range_join (range_join (M.r 0 0 rfl rfl) (M.r 0 1 rfl rfl) (by simp [flen])) (M.r 0 2 rfl rfl) (by simp [flen])) (M.lt 0 rfl) Tryd.underlying29 rfl info29 ?_
    simp only [putT, List.set]
    refine wpV_load (cs := [.int .u32 ((y.h.a : Nat) : Int), .int .u32 ((y.h.b : Nat) : Int), .int .u32 ((y.h.c : Nat) : Int), .int .u32 ((y.h.d : Nat) : Int), .int .u32 ((y.h.e : Nat) : Int), .int .u32 ((y.h.f : Nat) : Int), .int .u32 ((y.h.g : Nat) : Int), .int .u32 ((y.h.h : Nat) : Int)] ++ [.string (bs y.b)] ++ [.int .u64 ((y.n : Nat) : Int)]) (by rfl) rfl rfl (range_join (range_join (M.r 1 0 rfl rfl) (M.r 1 1 rfl rfl) (by simp [flen])) (M.r 1 2 rfl rfl) (by simp [flen])) (M.lt 1 rfl) Tryd.underlying29 rfl info29 ?_
    simp only [putT, List.set]
    refine wpV_move (v := .string (bs m)) (by rfl) rfl rfl ?_
    simp only [putT, List.set]
    refine wpV_callf (v := .agg ([.int .u32 (((goX y m).h.a : Nat) : Int), .int .u32 (((goX y m).h.b : Nat) : Int), .int .u32 (((goX y m).h.c : Nat) : Int), .int .u32 (((goX y m).h.d : Nat) : Int), .int .u32 (((goX y m).h.e : Nat) : Int), .int .u32 (((goX y m).h.f : Nat) : Int), .int .u32 (((goX y m).h.g : Nat) : Int), .int .u32 (((goX y m).h.h : Nat) : Int)] ++ [.string (bs ((goX y m).b))] ++ [.int .u64 (((goX y m).n : Nat) : Int)] : List Value).toArray) (args := #[.agg ([.int .u32 ((y.h.a : Nat) : Int), .int .u32 ((y.h.b : Nat) : Int), .int .u32 ((y.h.c : Nat) : Int), .int .u32 ((y.h.d : Nat) : Int), .int .u32 ((y.h.e : Nat) : Int), .int .u32 ((y.h.f : Nat) : Int), .int .u32 ((y.h.g : Nat) : Int), .int .u32 ((y.h.h : Nat) : Int)] ++ [.string (bs y.b)] ++ [.int .u64 ((y.n : Nat) : Int)] : List Value).toArray, .string (bs m)]) (by rfl) rfl Tryd.func35 (by kernel_rfl) (by kernel_rfl) rfl (fun W hW => by have h9 : Calls Tryd.prog _ _ W _ := rwrite_c (h := y.h) (b := y.b) (l := m) (n := y.n) hyk.h hr1 (by omega); with_reducible exact h9) ?_
    simp only [putT, List.set]
    refine wpV_eqlT (k := 3) (u := [Value.int .u32 (((goX y m).h.a : Nat) : Int), Value.int .u32 (((goX y m).h.b : Nat) : Int), Value.int .u32 (((goX y m).h.c : Nat) : Int), Value.int .u32 (((goX y m).h.d : Nat) : Int), Value.int .u32 (((goX y m).h.e : Nat) : Int), Value.int .u32 (((goX y m).h.f : Nat) : Int), Value.int .u32 (((goX y m).h.g : Nat) : Int), Value.int .u32 (((goX y m).h.h : Nat) : Int)] ++ [Value.string (bs ((goX y m).b))] ++ [Value.int .u64 (((goX y m).n : Nat) : Int)]) (v := [Value.int .u32 (((goX y m).h.a : Nat) : Int), Value.int .u32 (((goX y m).h.b : Nat) : Int), Value.int .u32 (((goX y m).h.c : Nat) : Int), Value.int .u32 (((goX y m).h.d : Nat) : Int), Value.int .u32 (((goX y m).h.e : Nat) : Int), Value.int .u32 (((goX y m).h.f : Nat) : Int), Value.int .u32 (((goX y m).h.g : Nat) : Int), Value.int .u32 (((goX y m).h.h : Nat) : Int)] ++ [Value.string (bs ((goX y m).b))] ++ [Value.int .u64 (((goX y m).n : Nat) : Int)]) (b := true) (by rfl) rfl rfl rfl (by kernel_rfl) (eq_sum_same _ _ _) (by decide) ?_
    simp only [putT, List.set]
    refine wpV_pick (v := .bool true) (by rfl) rfl rfl rfl ?_
    simp only [putT, List.set]
    refine wpV_nil (hLk.out _ ?_)
    clear hLk Lk
    simp only [List.take, List.drop]
    iterate 9 refine wpN_skip (by rfl) ?_
    refine wpN_nil (fun w84 Sw84 hbs => ?_)
    clear hbs
    replace M := M.sees Sw84
    refine wpL_assign (v := .bool true) (by rfl) (by rfl) (by rfl) ?_
    simp only [putT, List.set]
    refine wpL_nil (no_panic ?_)
    refine hK82 _ _ ?_
    refine wp_ret ?_
    repeat (first | with_reducible refine then_ret ?_ | with_reducible refine inblock_ret ?_)
    refine bodyPost_ret (v := .bool true) (res1 rfl (.tmp (by rfl))) rfl ?_
    have BE := M.below
    exact ⟨rfl, BE⟩
end Go.Proofs.Yb
