import Derived.WalkKit
import Derived.WalkSpells
import Derived.Laws.Pointers
import Derived.RowKit3
import Derived.Below
import Derived.Outline
import Derived.LoopN
import Derived.Lib.Hide
import Derived.Handy
import Derived.Laws.Bits64b
import Derived.Test.YticcchgckljlnaaDoorRf1
set_option linter.unusedSimpArgs false
set_option linter.unusedVariables false
namespace Go.Proofs.Yb
open Go Go.RowKit Go.Proofs.Num
set_option maxHeartbeats 1000000 in
theorem first_c  {w : World}  :
    Calls Tryd.prog 27 #[] w fun e w' => ∃ v, e = .returned v ∧ MemRow w 8 ([.int .u32 ((H0.a : Nat) : Int), .int .u32 ((H0.b : Nat) : Int), .int .u32 ((H0.c : Nat) : Int), .int .u32 ((H0.d : Nat) : Int), .int .u32 ((H0.e : Nat) : Int), .int .u32 ((H0.f : Nat) : Int), .int .u32 ((H0.g : Nat) : Int), .int .u32 ((H0.h : Nat) : Int)]) v w' ∧ Below w.heap.size w w' := by
  go_enter Tryd.func27, Tryd.ntmps27
  have M := Mem.start w
  refine wp_seq_k (fun K1 hK1 => ?_)
  refine wp_region_seq ?_
  refine wpL_assign (v := (.slice none 0 0)) (by rfl) (by rfl) (by rfl) ?_
  simp only [putT, List.set]
  refine wpL_nil (no_panic ?_)
  refine hK1 _ _ ?_
  refine wp_seq_k (fun K3 hK3 => ?_)
  refine wp_region_seq ?_
  refine wpL_rowN (vs := [.int .u32 1779033703, .int .u32 3144134277, .int .u32 1013904242, .int .u32 2773480762, .int .u32 1359893119, .int .u32 2600822924, .int .u32 528734635, .int .u32 1541459225]) (z := .int .u32 0) (bytes := 4) (by rfl) (by rfl) Tryd.underlying32 (by kernel_rfl) (by decide) (by kernel_rfl) (fun g5 w6 Sw6 Hg5 Bg5 => ?_)
  replace M := ((M.sees Sw6).add (N := 8) (cs := [.int .u32 1779033703, .int .u32 3144134277, .int .u32 1013904242, .int .u32 2773480762, .int .u32 1359893119, .int .u32 2600822924, .int .u32 528734635, .int .u32 1541459225]) (M.ge Hg5) (M.fresh Hg5) Bg5 rfl)
  clear Bg5
  simp only [putT, List.set]
  refine wpL_assign (v := .slice (some ⟨g5, 0, none⟩) 8 8) (by rfl) (by rfl) (by rfl) ?_
  simp only [putT, List.set]
  refine wpL_nil (no_panic ?_)
  refine hK3 _ _ ?_
  refine wp_ret ?_
  repeat (first | with_reducible refine then_ret ?_ | with_reducible refine inblock_ret ?_)
  refine bodyPost_ret (v := .slice (some ⟨g5, 0, none⟩) 8 8) (res1 rfl (.tmp (by rfl))) rfl ?_
  have BE := M.below
  exact ⟨_, rfl, ⟨g5, 8, rfl, (Nat.le_refl _), M.pick [0] (by decide) rfl⟩, BE⟩
set_option maxHeartbeats 1000000 in
theorem keys_c  {w : World}  :
    Calls Tryd.prog 25 #[] w fun e w' => ∃ v, e = .returned v ∧ MemRow w 64 (kcells) v w' ∧ Below w.heap.size w w' := by
  go_enter Tryd.func25, Tryd.ntmps25
  have M := Mem.start w
  refine wp_seq_k (fun K1 hK1 => ?_)
  refine wp_region_seq ?_
  refine wpL_assign (v := (.slice none 0 0)) (by rfl) (by rfl) (by rfl) ?_
  simp only [putT, List.set]
  refine wpL_nil (no_panic ?_)
  refine hK1 _ _ ?_
  refine wp_seq_k (fun K3 hK3 => ?_)
  refine wp_region_seq ?_
  refine wpL_rowN (vs := [.int .u32 1116352408, .int .u32 1899447441, .int .u32 3049323471, .int .u32 3921009573, .int .u32 961987163, .int .u32 1508970993, .int .u32 2453635748, .int .u32 2870763221, .int .u32 3624381080, .int .u32 310598401, .int .u32 607225278, .int .u32 1426881987, .int .u32 1925078388, .int .u32 2162078206, .int .u32 2614888103, .int .u32 3248222580, .int .u32 3835390401, .int .u32 4022224774, .int .u32 264347078, .int .u32 604807628, .int .u32 770255983, .int .u32 1249150122, .int .u32 1555081692, .int .u32 1996064986, .int .u32 2554220882, .int .u32 2821834349, .int .u32 2952996808, .int .u32 3210313671, .int .u32 3336571891, .int .u32 3584528711, .int .u32 113926993, .int .u32 338241895, .int .u32 666307205, .int .u32 773529912, .int .u32 1294757372, .int .u32 1396182291, .int .u32 1695183700, .int .u32 1986661051, .int .u32 2177026350, .int .u32 2456956037, .int .u32 2730485921, .int .u32 2820302411, .int .u32 3259730800, .int .u32 3345764771, .int .u32 3516065817, .int .u32 3600352804, .int .u32 4094571909, .int .u32 275423344, .int .u32 430227734, .int .u32 506948616, .int .u32 659060556, .int .u32 883997877, .int .u32 958139571, .int .u32 1322822218, .int .u32 1537002063, .int .u32 1747873779, .int .u32 1955562222, .int .u32 2024104815, .int .u32 2227730452, .int .u32 2361852424, .int .u32 2428436474, .int .u32 2756734187, .int .u32 3204031479, .int .u32 3329325298]) (z := .int .u32 0) (bytes := 4) (by rfl) (by rfl) Tryd.underlying32 (by kernel_rfl) (by decide) (by kernel_rfl) (fun g5 w6 Sw6 Hg5 Bg5 => ?_)
  replace M := ((M.sees Sw6).add (N := 64) (cs := [.int .u32 1116352408, .int .u32 1899447441, .int .u32 3049323471, .int .u32 3921009573, .int .u32 961987163, .int .u32 1508970993, .int .u32 2453635748, .int .u32 2870763221, .int .u32 3624381080, .int .u32 310598401, .int .u32 607225278, .int .u32 1426881987, .int .u32 1925078388, .int .u32 2162078206, .int .u32 2614888103, .int .u32 3248222580, .int .u32 3835390401, .int .u32 4022224774, .int .u32 264347078, .int .u32 604807628, .int .u32 770255983, .int .u32 1249150122, .int .u32 1555081692, .int .u32 1996064986, .int .u32 2554220882, .int .u32 2821834349, .int .u32 2952996808, .int .u32 3210313671, .int .u32 3336571891, .int .u32 3584528711, .int .u32 113926993, .int .u32 338241895, .int .u32 666307205, .int .u32 773529912, .int .u32 1294757372, .int .u32 1396182291, .int .u32 1695183700, .int .u32 1986661051, .int .u32 2177026350, .int .u32 2456956037, .int .u32 2730485921, .int .u32 2820302411, .int .u32 3259730800, .int .u32 3345764771, .int .u32 3516065817, .int .u32 3600352804, .int .u32 4094571909, .int .u32 275423344, .int .u32 430227734, .int .u32 506948616, .int .u32 659060556, .int .u32 883997877, .int .u32 958139571, .int .u32 1322822218, .int .u32 1537002063, .int .u32 1747873779, .int .u32 1955562222, .int .u32 2024104815, .int .u32 2227730452, .int .u32 2361852424, .int .u32 2428436474, .int .u32 2756734187, .int .u32 3204031479, .int .u32 3329325298]) (M.ge Hg5) (M.fresh Hg5) Bg5 rfl)
  clear Bg5
  simp only [putT, List.set]
  refine wpL_assign (v := .slice (some ⟨g5, 0, none⟩) 64 64) (by rfl) (by rfl) (by rfl) ?_
  simp only [putT, List.set]
  refine wpL_nil (no_panic ?_)
  refine hK3 _ _ ?_
  refine wp_ret ?_
  repeat (first | with_reducible refine then_ret ?_ | with_reducible refine inblock_ret ?_)
  refine bodyPost_ret (v := .slice (some ⟨g5, 0, none⟩) 64 64) (res1 rfl (.tmp (by rfl))) rfl ?_
  have BE := M.below
  exact ⟨_, rfl, ⟨g5, 64, rfl, (Nat.le_refl _), M.pick [0] (by decide) rfl⟩, BE⟩
set_option maxHeartbeats 2000000 in
theorem rnew_c  {w : World}  :
    Calls Tryd.prog 23 #[] w fun e w' => e = .returned (.agg ([.int .u32 ((H0.a : Nat) : Int), .int .u32 ((H0.b : Nat) : Int), .int .u32 ((H0.c : Nat) : Int), .int .u32 ((H0.d : Nat) : Int), .int .u32 ((H0.e : Nat) : Int), .int .u32 ((H0.f : Nat) : Int), .int .u32 ((H0.g : Nat) : Int), .int .u32 ((H0.h : Nat) : Int)] ++ [.string (bs [])] ++ [.int .u64 ((0 : Nat) : Int)] : List Value).toArray) ∧ Below w.heap.size w w' := by
  go_enter Tryd.func23, Tryd.ntmps23
  have M := Mem.start w
  refine wp_seq_k (fun K1 hK1 => ?_)
  refine wp_region_seq ?_
  refine wpL_var (t := 29) (cs := [.int .u32 0, .int .u32 0, .int .u32 0, .int .u32 0, .int .u32 0, .int .u32 0, .int .u32 0, .int .u32 0, .string { data := #[] }, .int .u64 0]) (by rfl) (fun W => ?_) (fun g3 w4 Sw4 Hg3 Bg3 => ?_)
  · go_simp
  replace M := ((M.sees Sw4).addS (N := 10) (cs := [.int .u32 0, .int .u32 0, .int .u32 0, .int .u32 0, .int .u32 0, .int .u32 0, .int .u32 0, .int .u32 0, .string { data := #[] }, .int .u64 0]) (segs := [(0, [.int .u32 0, .int .u32 0, .int .u32 0, .int .u32 0, .int .u32 0, .int .u32 0, .int .u32 0, .int .u32 0]), (8, [.string { data := #[] }]), (9, [.int .u64 0])]) (M.ge Hg3) (M.fresh Hg3) Bg3 rfl ⟨rfl, rfl, rfl, trivial⟩)
  clear Bg3
  simp only [putT, List.set]
  refine wpL_nil (no_panic ?_)
  refine hK1 _ _ ?_
  refine wp_seq_k (fun K5 hK5 => ?_)
  refine wp_region_seq ?_
  refine wpL_chunk 1 (by rfl) (fun Lk hLk => ?_)
  simp only [List.take, List.drop]
  refine wpV_val (v := .agg ([.int .u32 0, .int .u32 0, .int .u32 0, .int .u32 0, .int .u32 0, .int .u32 0, .int .u32 0, .int .u32 0, .string { data := #[] }, .int .u64 0]).toArray) (by rfl) (by rfl) (fun W hW => ?_) ?_
  · (unfold RunsVal; kernel_rfl)
  simp only [putT, List.set]
  refine wpV_nil (hLk _ (fun w7 Sw7 => ?_))
  clear hLk Lk
  simp only [List.take, List.drop]
  replace M := M.sees Sw7
  refine wpL_var (t := 29) (cs := [.int .u32 0, .int .u32 0, .int .u32 0, .int .u32 0, .int .u32 0, .int .u32 0, .int .u32 0, .int .u32 0, .string { data := #[] }, .int .u64 0]) (by rfl) (fun W => ?_) (fun g8 w9 Sw9 Hg8 Bg8 => ?_)
  · go_simp
  replace M := ((M.sees Sw9).addS (N := 10) (cs := [.int .u32 0, .int .u32 0, .int .u32 0, .int .u32 0, .int .u32 0, .int .u32 0, .int .u32 0, .int .u32 0, .string { data := #[] }, .int .u64 0]) (segs := [(0, [.int .u32 0, .int .u32 0, .int .u32 0, .int .u32 0, .int .u32 0, .int .u32 0, .int .u32 0, .int .u32 0]), (8, [.string { data := #[] }]), (9, [.int .u64 0])]) (M.ge Hg8) (M.fresh Hg8) Bg8 rfl ⟨rfl, rfl, rfl, trivial⟩)
  clear Bg8
  simp only [putT, List.set]
  refine wpL_store (g := g8) (off := 0) (n := 10) (cs := [.int .u32 0, .int .u32 0, .int .u32 0, .int .u32 0, .int .u32 0, .int .u32 0, .int .u32 0, .int .u32 0, .string { data := #[] }, .int .u64 0]) (by rfl) (by rfl) (by rfl) (by rfl) (by rfl) (M.t 0 rfl) (by simp [flen]) info29 (by simp [fone, Value.oneCell']) (fun w10 P R T => ?_)
  replace M := M.put (segs' := [(0, [.int .u32 0, .int .u32 0, .int .u32 0, .int .u32 0, .int .u32 0, .int .u32 0, .int .u32 0, .int .u32 0]), (8, [.string { data := #[] }]), (9, [.int .u64 0])]) 0 rfl P T (SegsOf.at R ⟨rfl, rfl, rfl, trivial⟩)
  simp only [List.set] at M
  refine wpL_nil (no_panic ?_)
  refine hK5 _ _ ?_
  refine wp_seq_k (fun K11 hK11 => ?_)
  refine wp_seq_k (fun K12 hK12 => ?_)
  refine wp_region_seq ?_
  refine wpL_callE (f := 27) (args := #[]) (R := MemRow w10 8 ([.int .u32 ((H0.a : Nat) : Int), .int .u32 ((H0.b : Nat) : Int), .int .u32 ((H0.c : Nat) : Int), .int .u32 ((H0.d : Nat) : Int), .int .u32 ((H0.e : Nat) : Int), .int .u32 ((H0.f : Nat) : Int), .int .u32 ((H0.g : Nat) : Int), .int .u32 ((H0.h : Nat) : Int)])) (by rfl) (by rfl) rfl Tryd.func27 (by kernel_rfl) (by kernel_rfl) (first_c) (fun v9 w15 hv9 Sw15 => ?_)
  obtain ⟨g14, g14c, rfl, Cg14, M9⟩ := hv9
  replace M := M.call1 M9
  simp only [putT, List.set]
  refine wpL_chunk 1 (by rfl) (fun Lk hLk => ?_)
  simp only [List.take, List.drop]
  refine wpV_lenA (n := 8) (by rfl) rfl rfl rfl Tryd.underlying32 ?_
  simp only [putT, List.set]
  refine wpV_nil (hLk _ (fun w16 Sw16 => ?_))
  clear hLk Lk
  simp only [List.take, List.drop]
  replace M := M.sees Sw16
  refine wpL_move (v := .int .i64 0) (by rfl) (by rfl) (by rfl) ?_
  simp only [putT, List.set]
  refine wpL_nil (no_panic ?_)
  refine hK12 _ _ ?_
  refine wp_block ?_
  refine wp_loop_rounds 9 ?_
  rw [rounds_succ]
  refine wp_seq_k (fun K17 hK17 => ?_)
  refine wp_region_seq ?_
  refine wpL_chunk 1 (by rfl) (fun Lk hLk => ?_)
  simp only [List.take, List.drop]
  refine wpV_bin (v := .bool true) (by rfl) rfl rfl rfl (fun W => run_lss _ _ _ _ W) ?_
  simp only [putT, List.set]
  refine wpV_nil (hLk _ (fun w19 Sw19 => ?_))
  clear hLk Lk
  simp only [List.take, List.drop]
  replace M := M.sees Sw19
  refine wpL_nil (no_panic ?_)
  refine hK17 _ _ ?_
  refine wp_seq_k (fun K20 hK20 => ?_)
  refine wp_cond_true rfl ?_
  refine wp_skip ?_
  refine hK20 _ _ ?_
  refine wp_seq_k (fun K21 hK21 => ?_)
  refine wp_block ?_
  refine wp_seq_k (fun K22 hK22 => ?_)
  refine wp_region_seq ?_
  refine wpL_move (v := .int .i64 0) (by rfl) (by rfl) (by rfl) ?_
  simp only [putT, List.set]
  refine wpL_chunk 2 (by rfl) (fun Lk hLk => ?_)
  simp only [List.take, List.drop]
  refine wpV_idxs (n := 0) (by rfl) rfl rfl rfl Tryd.underlying32 info25 (by omega) ?_
  simp only [Nat.zero_add]
  simp only [putT, List.set]
  refine wpV_load1 (v := .int .u32 ((H0.a : Nat) : Int)) (by rfl) rfl rfl (zadd ((M.r 0 0 rfl rfl) _ _ rfl)) (M.lt 0 rfl) Tryd.underlying25 rfl ?_
  simp only [putT, List.set]
  refine wpV_nil (hLk _ (fun w24 Sw24 => ?_))
  clear hLk Lk
  simp only [List.take, List.drop]
  replace M := M.sees Sw24
  refine wpL_assign (v := .int .i64 0) (by rfl) (by rfl) (by rfl) ?_
  simp only [putT, List.set]
  refine wpL_assign (v := .int .u32 ((H0.a : Nat) : Int)) (by rfl) (by rfl) (by rfl) ?_
  simp only [putT, List.set]
  refine wpL_nil (no_panic ?_)
  refine hK22 _ _ ?_
  refine wp_region_seq ?_
  refine wpL_move (v := .int .i64 0) (by rfl) (by rfl) (by rfl) ?_
  simp only [putT, List.set]
  refine wpL_move (v := .int .u32 ((H0.a : Nat) : Int)) (by rfl) (by rfl) (by rfl) ?_
  simp only [putT, List.set]
  refine wpL_chunk 2 (by rfl) (fun Lk hLk => ?_)
  simp only [List.take, List.drop]
  refine wpV_val (v := .pointer (some ⟨g8, 0, none⟩)) (by rfl) (by rfl) (fun W hW => ?_) ?_
  · (go_simp; exact rfl)
  simp only [putT, List.set]
  refine wpV_val (v := .pointer (some ⟨g8, 0, none⟩)) (by rfl) (by rfl) (fun W hW => ?_) ?_
  · (go_simp; exact rfl)
  simp only [putT, List.set]
  refine wpV_nil (hLk _ (fun w26 Sw26 => ?_))
  clear hLk Lk
  simp only [List.take, List.drop]
  replace M := M.sees Sw26
  refine wpL_store1 (g := g8) (off := 0) (n := 10) (v := .int .u32 ((H0.a : Nat) : Int)) (by rfl) (by rfl) (by rfl) (by rfl) (by rfl) (M.t 1 rfl) (by decide) info25 rfl (fun w27 P R T => ?_)
  replace M := M.putI (i := 0) 1 0 rfl P R T rfl rfl (by simp) (by simp [SepS, flen])
  simp only [List.set] at M
  refine wpL_nil (no_panic ?_)
  refine hK21 _ _ ?_
  refine wp_region_seq ?_
  refine wpL_chunk 1 (by rfl) (fun Lk hLk => ?_)
  simp only [List.take, List.drop]
  refine wpV_bin (v := .int .i64 1) (by rfl) rfl rfl rfl (fun W => run_add (by decide) W) ?_
  simp only [putT, List.set]
  refine wpV_nil (hLk _ (fun w29 Sw29 => ?_))
  clear hLk Lk
  simp only [List.take, List.drop]
  replace M := M.sees Sw29
  refine wpL_move (v := .int .i64 1) (by rfl) (by rfl) (by rfl) ?_
  simp only [putT, List.set]
  refine wpL_nil (no_panic ?_)
  refine then_normal (Q := fun _ _ _ => True) ?_
  rw [rounds_succ]
  refine wp_seq_k (fun K30 hK30 => ?_)
  refine wp_region_seq ?_
  refine wpL_chunk 1 (by rfl) (fun Lk hLk => ?_)
  simp only [List.take, List.drop]
  refine wpV_bin (v := .bool true) (by rfl) rfl rfl rfl (fun W => run_lss _ _ _ _ W) ?_
  simp only [putT, List.set]
  refine wpV_nil (hLk _ (fun w32 Sw32 => ?_))
  clear hLk Lk
  simp only [List.take, List.drop]
  replace M := M.sees Sw32
  refine wpL_nil (no_panic ?_)
  refine hK30 _ _ ?_
  refine wp_seq_k (fun K33 hK33 => ?_)
  refine wp_cond_true rfl ?_
  refine wp_skip ?_
  refine hK33 _ _ ?_
  refine wp_seq_k (fun K34 hK34 => ?_)
  refine wp_block ?_
  refine wp_seq_k (fun K35 hK35 => ?_)
  refine wp_region_seq ?_
  refine wpL_move (v := .int .i64 1) (by rfl) (by rfl) (by rfl) ?_
  simp only [putT, List.set]
  refine wpL_chunk 2 (by rfl) (fun Lk hLk => ?_)
  simp only [List.take, List.drop]
  refine wpV_idxs (n := 1) (by rfl) rfl rfl rfl Tryd.underlying32 info25 (by omega) ?_
  simp only [Nat.zero_add]
  simp only [putT, List.set]
  refine wpV_load1 (v := .int .u32 ((H0.b : Nat) : Int)) (by rfl) rfl rfl (zadd ((M.r 0 0 rfl rfl) _ _ rfl)) (M.lt 0 rfl) Tryd.underlying25 rfl ?_
  simp only [putT, List.set]
  refine wpV_nil (hLk _ (fun w37 Sw37 => ?_))
  clear hLk Lk
  simp only [List.take, List.drop]
  replace M := M.sees Sw37
  refine wpL_assign (v := .int .i64 1) (by rfl) (by rfl) (by rfl) ?_
  simp only [putT, List.set]
  refine wpL_assign (v := .int .u32 ((H0.b : Nat) : Int)) (by rfl) (by rfl) (by rfl) ?_
  simp only [putT, List.set]
  refine wpL_nil (no_panic ?_)
  refine hK35 _ _ ?_
  refine wp_region_seq ?_
  refine wpL_move (v := .int .i64 1) (by rfl) (by rfl) (by rfl) ?_
  simp only [putT, List.set]
  refine wpL_move (v := .int .u32 ((H0.b : Nat) : Int)) (by rfl) (by rfl) (by rfl) ?_
  simp only [putT, List.set]
  refine wpL_chunk 2 (by rfl) (fun Lk hLk => ?_)
  simp only [List.take, List.drop]
  refine wpV_val (v := .pointer (some ⟨g8, 0, none⟩)) (by rfl) (by rfl) (fun W hW => ?_) ?_
  · (go_simp; exact rfl)
  simp only [putT, List.set]
  refine wpV_val (v := .pointer (some ⟨g8, 1, none⟩)) (by rfl) (by rfl) (fun W hW => ?_) ?_
  · (go_simp; exact rfl)
  simp only [putT, List.set]
  refine wpV_nil (hLk _ (fun w39 Sw39 => ?_))
  clear hLk Lk
  simp only [List.take, List.drop]
  replace M := M.sees Sw39
  refine wpL_store1 (g := g8) (off := 1) (n := 10) (v := .int .u32 ((H0.b : Nat) : Int)) (by rfl) (by rfl) (by rfl) (by rfl) (by rfl) (M.t 1 rfl) (by decide) info25 rfl (fun w40 P R T => ?_)
  replace M := M.putI (i := 1) 1 0 rfl P R T rfl rfl (by simp) (by simp [SepS, flen])
  simp only [List.set] at M
  refine wpL_nil (no_panic ?_)
  refine hK34 _ _ ?_
  refine wp_region_seq ?_
  refine wpL_chunk 1 (by rfl) (fun Lk hLk => ?_)
  simp only [List.take, List.drop]
  refine wpV_bin (v := .int .i64 2) (by rfl) rfl rfl rfl (fun W => run_add (by decide) W) ?_
  simp only [putT, List.set]
  refine wpV_nil (hLk _ (fun w42 Sw42 => ?_))
  clear hLk Lk
  simp only [List.take, List.drop]
  replace M := M.sees Sw42
  refine wpL_move (v := .int .i64 2) (by rfl) (by rfl) (by rfl) ?_
  simp only [putT, List.set]
  refine wpL_nil (no_panic ?_)
  refine then_normal (Q := fun _ _ _ => True) ?_
  rw [rounds_succ]
  refine wp_seq_k (fun K43 hK43 => ?_)
  refine wp_region_seq ?_
  refine wpL_chunk 1 (by rfl) (fun Lk hLk => ?_)
  simp only [List.take, List.drop]
  refine wpV_bin (v := .bool true) (by rfl) rfl rfl rfl (fun W => run_lss _ _ _ _ W) ?_
  simp only [putT, List.set]
  refine wpV_nil (hLk _ (fun w45 Sw45 => ?_))
  clear hLk Lk
  simp only [List.take, List.drop]
  replace M := M.sees Sw45
  refine wpL_nil (no_panic ?_)
  refine hK43 _ _ ?_
  refine wp_seq_k (fun K46 hK46 => ?_)
  refine wp_cond_true rfl ?_
  refine wp_skip ?_
  refine hK46 _ _ ?_
  refine wp_seq_k (fun K47 hK47 => ?_)
  refine wp_block ?_
  refine wp_seq_k (fun K48 hK48 => ?_)
  refine wp_region_seq ?_
  refine wpL_move (v := .int .i64 2) (by rfl) (by rfl) (by rfl) ?_
  simp only [putT, List.set]
  refine wpL_chunk 2 (by rfl) (fun Lk hLk => ?_)
  simp only [List.take, List.drop]
  refine wpV_idxs (n := 2) (by rfl) rfl rfl rfl Tryd.underlying32 info25 (by omega) ?_
  simp only [Nat.zero_add]
  simp only [putT, List.set]
  refine wpV_load1 (v := .int .u32 ((H0.c : Nat) : Int)) (by rfl) rfl rfl (zadd ((M.r 0 0 rfl rfl) _ _ rfl)) (M.lt 0 rfl) Tryd.underlying25 rfl ?_
  simp only [putT, List.set]
  refine wpV_nil (hLk _ (fun w50 Sw50 => ?_))
  clear hLk Lk
  simp only [List.take, List.drop]
  replace M := M.sees Sw50
  refine wpL_assign (v := .int .i64 2) (by rfl) (by rfl) (by rfl) ?_
  simp only [putT, List.set]
  refine wpL_assign (v := .int .u32 ((H0.c : Nat) : Int)) (by rfl) (by rfl) (by rfl) ?_
  simp only [putT, List.set]
  refine wpL_nil (no_panic ?_)
  refine hK48 _ _ ?_
  refine wp_region_seq ?_
  refine wpL_move (v := .int .i64 2) (by rfl) (by rfl) (by rfl) ?_
  simp only [putT, List.set]
  refine wpL_move (v := .int .u32 ((H0.c : Nat) : Int)) (by rfl) (by rfl) (by rfl) ?_
  simp only [putT, List.set]
  refine wpL_chunk 2 (by rfl) (fun Lk hLk => ?_)
  simp only [List.take, List.drop]
  refine wpV_val (v := .pointer (some ⟨g8, 0, none⟩)) (by rfl) (by rfl) (fun W hW => ?_) ?_
  · (go_simp; exact rfl)
  simp only [putT, List.set]
  refine wpV_val (v := .pointer (some ⟨g8, 2, none⟩)) (by rfl) (by rfl) (fun W hW => ?_) ?_
  · (go_simp; exact rfl)
  simp only [putT, List.set]
  refine wpV_nil (hLk _ (fun w52 Sw52 => ?_))
  clear hLk Lk
  simp only [List.take, List.drop]
  replace M := M.sees Sw52
  refine wpL_store1 (g := g8) (off := 2) (n := 10) (v := .int .u32 ((H0.c : Nat) : Int)) (by rfl) (by rfl) (by rfl) (by rfl) (by rfl) (M.t 1 rfl) (by decide) info25 rfl (fun w53 P R T => ?_)
  replace M := M.putI (i := 2) 1 0 rfl P R T rfl rfl (by simp) (by simp [SepS, flen])
  simp only [List.set] at M
  refine wpL_nil (no_panic ?_)
  refine hK47 _ _ ?_
  refine wp_region_seq ?_
  refine wpL_chunk 1 (by rfl) (fun Lk hLk => ?_)
  simp only [List.take, List.drop]
  refine wpV_bin (v := .int .i64 3) (by rfl) rfl rfl rfl (fun W => run_add (by decide) W) ?_
  simp only [putT, List.set]
  refine wpV_nil (hLk _ (fun w55 Sw55 => ?_))
  clear hLk Lk
  simp only [List.take, List.drop]
  replace M := M.sees Sw55
  refine wpL_move (v := .int .i64 3) (by rfl) (by rfl) (by rfl) ?_
  simp only [putT, List.set]
  refine wpL_nil (no_panic ?_)
  refine then_normal (Q := fun _ _ _ => True) ?_
  rw [rounds_succ]
  refine wp_seq_k (fun K56 hK56 => ?_)
  refine wp_region_seq ?_
  refine wpL_chunk 1 (by rfl) (fun Lk hLk => ?_)
  simp only [List.take, List.drop]
  refine wpV_bin (v := .bool true) (by rfl) rfl rfl rfl (fun W => run_lss _ _ _ _ W) ?_
  simp only [putT, List.set]
  refine wpV_nil (hLk _ (fun w58 Sw58 => ?_))
  clear hLk Lk
  simp only [List.take, List.drop]
  replace M := M.sees Sw58
  refine wpL_nil (no_panic ?_)
  refine hK56 _ _ ?_
  refine wp_seq_k (fun K59 hK59 => ?_)
  refine wp_cond_true rfl ?_
  refine wp_skip ?_
  refine hK59 _ _ ?_
  refine wp_seq_k (fun K60 hK60 => ?_)
  refine wp_block ?_
  refine wp_seq_k (fun K61 hK61 => ?_)
  refine wp_region_seq ?_
  refine wpL_move (v := .int .i64 3) (by rfl) (by rfl) (by rfl) ?_
  simp only [putT, List.set]
  refine wpL_chunk 2 (by rfl) (fun Lk hLk => ?_)
  simp only [List.take, List.drop]
  refine wpV_idxs (n := 3) (by rfl) rfl rfl rfl Tryd.underlying32 info25 (by omega) ?_
  simp only [Nat.zero_add]
  simp only [putT, List.set]
  refine wpV_load1 (v := .int .u32 ((H0.d : Nat) : Int)) (by rfl) rfl rfl (zadd ((M.r 0 0 rfl rfl) _ _ rfl)) (M.lt 0 rfl) Tryd.underlying25 rfl ?_
  simp only [putT, List.set]
  refine wpV_nil (hLk _ (fun w63 Sw63 => ?_))
  clear hLk Lk
  simp only [List.take, List.drop]
  replace M := M.sees Sw63
  refine wpL_assign (v := .int .i64 3) (by rfl) (by rfl) (by rfl) ?_
  simp only [putT, List.set]
  refine wpL_assign (v := .int .u32 ((H0.d : Nat) : Int)) (by rfl) (by rfl) (by rfl) ?_
  simp only [putT, List.set]
  refine wpL_nil (no_panic ?_)
  refine hK61 _ _ ?_
  refine wp_region_seq ?_
  refine wpL_move (v := .int .i64 3) (by rfl) (by rfl) (by rfl) ?_
  simp only [putT, List.set]
  refine wpL_move (v := .int .u32 ((H0.d : Nat) : Int)) (by rfl) (by rfl) (by rfl) ?_
  simp only [putT, List.set]
  refine wpL_chunk 2 (by rfl) (fun Lk hLk => ?_)
  simp only [List.take, List.drop]
  refine wpV_val (v := .pointer (some ⟨g8, 0, none⟩)) (by rfl) (by rfl) (fun W hW => ?_) ?_
  · (go_simp; exact rfl)
  simp only [putT, List.set]
  refine wpV_val (v := .pointer (some ⟨g8, 3, none⟩)) (by rfl) (by rfl) (fun W hW => ?_) ?_
  · (go_simp; exact rfl)
  simp only [putT, List.set]
  refine wpV_nil (hLk _ (fun w65 Sw65 => ?_))
  clear hLk Lk
  simp only [List.take, List.drop]
  replace M := M.sees Sw65
  refine wpL_store1 (g := g8) (off := 3) (n := 10) (v := .int .u32 ((H0.d : Nat) : Int)) (by rfl) (by rfl) (by rfl) (by rfl) (by rfl) (M.t 1 rfl) (by decide) info25 rfl (fun w66 P R T => ?_)
  replace M := M.putI (i := 3) 1 0 rfl P R T rfl rfl (by simp) (by simp [SepS, flen])
  simp only [List.set] at M
  refine wpL_nil (no_panic ?_)
  refine hK60 _ _ ?_
  refine wp_region_seq ?_
  refine wpL_chunk 1 (by rfl) (fun Lk hLk => ?_)
  simp only [List.take, List.drop]
  refine wpV_bin (v := .int .i64 4) (by rfl) rfl rfl rfl (fun W => run_add (by decide) W) ?_
  simp only [putT, List.set]
  refine wpV_nil (hLk _ (fun w68 Sw68 => ?_))
  clear hLk Lk
  simp only [List.take, List.drop]
  replace M := M.sees Sw68
  refine wpL_move (v := .int .i64 4) (by rfl) (by rfl) (by rfl) ?_
  simp only [putT, List.set]
  refine wpL_nil (no_panic ?_)
  refine then_normal (Q := fun _ _ _ => True) ?_
  rw [rounds_succ]
  refine wp_seq_k (fun K69 hK69 => ?_)
  refine wp_region_seq ?_
  refine wpL_chunk 1 (by rfl) (fun Lk hLk => ?_)
  simp only [List.take, List.drop]
  refine wpV_bin (v := .bool true) (by rfl) rfl rfl rfl (fun W => run_lss _ _ _ _ W) ?_
  simp only [putT, List.set]
  refine wpV_nil (hLk _ (fun w71 Sw71 => ?_))
  clear hLk Lk
  simp only [List.take, List.drop]
  replace M := M.sees Sw71
  refine wpL_nil (no_panic ?_)
  refine hK69 _ _ ?_
  refine wp_seq_k (fun K72 hK72 => ?_)
  refine wp_cond_true rfl ?_
  refine wp_skip ?_
  refine hK72 _ _ ?_
  refine wp_seq_k (fun K73 hK73 => ?_)
  refine wp_block ?_
  refine wp_seq_k (fun K74 hK74 => ?_)
  refine wp_region_seq ?_
  refine wpL_move (v := .int .i64 4) (by rfl) (by rfl) (by rfl) ?_
  simp only [putT, List.set]
  refine wpL_chunk 2 (by rfl) (fun Lk hLk => ?_)
  simp only [List.take, List.drop]
  refine wpV_idxs (n := 4) (by rfl) rfl rfl rfl Tryd.underlying32 info25 (by omega) ?_
  simp only [Nat.zero_add]
  simp only [putT, List.set]
  refine wpV_load1 (v := .int .u32 ((H0.e : Nat) : Int)) (by rfl) rfl rfl (zadd ((M.r 0 0 rfl rfl) _ _ rfl)) (M.lt 0 rfl) Tryd.underlying25 rfl ?_
  simp only [putT, List.set]
  refine wpV_nil (hLk _ (fun w76 Sw76 => ?_))
  clear hLk Lk
  simp only [List.take, List.drop]
  replace M := M.sees Sw76
  refine wpL_assign (v := .int .i64 4) (by rfl) (by rfl) (by rfl) ?_
  simp only [putT, List.set]
  refine wpL_assign (v := .int .u32 ((H0.e : Nat) : Int)) (by rfl) (by rfl) (by rfl) ?_
  simp only [putT, List.set]
  refine wpL_nil (no_panic ?_)
  refine hK74 _ _ ?_
  refine wp_region_seq ?_
  refine wpL_move (v := .int .i64 4) (by rfl) (by rfl) (by rfl) ?_
  simp only [putT, List.set]
  refine wpL_move (v := .int .u32 ((H0.e : Nat) : Int)) (by rfl) (by rfl) (by rfl) ?_
  simp only [putT, List.set]
  refine wpL_chunk 2 (by rfl) (fun Lk hLk => ?_)
  simp only [List.take, List.drop]
  refine wpV_val (v := .pointer (some ⟨g8, 0, none⟩)) (by rfl) (by rfl) (fun W hW => ?_) ?_
  · (go_simp; exact rfl)
  simp only [putT, List.set]
  refine wpV_val (v := .pointer (some ⟨g8, 4, none⟩)) (by rfl) (by rfl) (fun W hW => ?_) ?_
  · (go_simp; exact rfl)
  simp only [putT, List.set]
  refine wpV_nil (hLk _ (fun w78 Sw78 => ?_))
  clear hLk Lk
  simp only [List.take, List.drop]
  replace M := M.sees Sw78
  refine wpL_store1 (g := g8) (off := 4) (n := 10) (v := .int .u32 ((H0.e : Nat) : Int)) (by rfl) (by rfl) (by rfl) (by rfl) (by rfl) (M.t 1 rfl) (by decide) info25 rfl (fun w79 P R T => ?_)
  replace M := M.putI (i := 4) 1 0 rfl P R T rfl rfl (by simp) (by simp [SepS, flen])
  simp only [List.set] at M
  refine wpL_nil (no_panic ?_)
  refine hK73 _ _ ?_
  refine wp_region_seq ?_
  refine wpL_chunk 1 (by rfl) (fun Lk hLk => ?_)
  simp only [List.take, List.drop]
  refine wpV_bin (v := .int .i64 5) (by rfl) rfl rfl rfl (fun W => run_add (by decide) W) ?_
  simp only [putT, List.set]
  refine wpV_nil (hLk _ (fun w81 Sw81 => ?_))
  clear hLk Lk
  simp only [List.take, List.drop]
  replace M := M.sees Sw81
  refine wpL_move (v := .int .i64 5) (by rfl) (by rfl) (by rfl) ?_
  simp only [putT, List.set]
  refine wpL_nil (no_panic ?_)
  refine then_normal (Q := fun _ _ _ => True) ?_
  rw [rounds_succ]
  refine wp_seq_k (fun K82 hK82 => ?_)
  refine wp_region_seq ?_
  refine wpL_chunk 1 (by rfl) (fun Lk hLk => ?_)
  simp only [List.take, List.drop]
  refine wpV_bin (v := .bool true) (by rfl) rfl rfl rfl (fun W => run_lss _ _ _ _ W) ?_
  simp only [putT, List.set]
  refine wpV_nil (hLk _ (fun w84 Sw84 => ?_))
  clear hLk Lk
  simp only [List.take, List.drop]
  replace M := M.sees Sw84
  refine wpL_nil (no_panic ?_)
  refine hK82 _ _ ?_
  refine wp_seq_k (fun K85 hK85 => ?_)
  refine wp_cond_true rfl ?_
  refine wp_skip ?_
  refine hK85 _ _ ?_
  refine wp_seq_k (fun K86 hK86 => ?_)
  refine wp_block ?_
  refine wp_seq_k (fun K87 hK87 => ?_)
  refine wp_region_seq ?_
  refine wpL_move (v := .int .i64 5) (by rfl) (by rfl) (by rfl) ?_
  simp only [putT, List.set]
  refine wpL_chunk 2 (by rfl) (fun Lk hLk => ?_)
  simp only [List.take, List.drop]
  refine wpV_idxs (n := 5) (by rfl) rfl rfl rfl Tryd.underlying32 info25 (by omega) ?_
  simp only [Nat.zero_add]
  simp only [putT, List.set]
  refine wpV_load1 (v := .int .u32 ((H0.f : Nat) : Int)) (by rfl) rfl rfl (zadd ((M.r 0 0 rfl rfl) _ _ rfl)) (M.lt 0 rfl) Tryd.underlying25 rfl ?_
  simp only [putT, List.set]
  refine wpV_nil (hLk _ (fun w89 Sw89 => ?_))
  clear hLk Lk
  simp only [List.take, List.drop]
  replace M := M.sees Sw89
  refine wpL_assign (v := .int .i64 5) (by rfl) (by rfl) (by rfl) ?_
  simp only [putT, List.set]
  refine wpL_assign (v := .int .u32 ((H0.f : Nat) : Int)) (by rfl) (by rfl) (by rfl) ?_
  simp only [putT, List.set]
  refine wpL_nil (no_panic ?_)
  refine hK87 _ _ ?_
  refine wp_region_seq ?_
  refine wpL_move (v := .int .i64 5) (by rfl) (by rfl) (by rfl) ?_
  simp only [putT, List.set]
  refine wpL_move (v := .int .u32 ((H0.f : Nat) : Int)) (by rfl) (by rfl) (by rfl) ?_
  simp only [putT, List.set]
  refine wpL_chunk 2 (by rfl) (fun Lk hLk => ?_)
  simp only [List.take, List.drop]
  refine wpV_val (v := .pointer (some ⟨g8, 0, none⟩)) (by rfl) (by rfl) (fun W hW => ?_) ?_
  · (go_simp; exact rfl)
  simp only [putT, List.set]
  refine wpV_val (v := .pointer (some ⟨g8, 5, none⟩)) (by rfl) (by rfl) (fun W hW => ?_) ?_
  · (go_simp; exact rfl)
  simp only [putT, List.set]
  refine wpV_nil (hLk _ (fun w91 Sw91 => ?_))
  clear hLk Lk
  simp only [List.take, List.drop]
  replace M := M.sees Sw91
  refine wpL_store1 (g := g8) (off := 5) (n := 10) (v := .int .u32 ((H0.f : Nat) : Int)) (by rfl) (by rfl) (by rfl) (by rfl) (by rfl) (M.t 1 rfl) (by decide) info25 rfl (fun w92 P R T => ?_)
  replace M := M.putI (i := 5) 1 0 rfl P R T rfl rfl (by simp) (by simp [SepS, flen])
  simp only [List.set] at M
  refine wpL_nil (no_panic ?_)
  refine hK86 _ _ ?_
  refine wp_region_seq ?_
  refine wpL_chunk 1 (by rfl) (fun Lk hLk => ?_)
  simp only [List.take, List.drop]
  refine wpV_bin (v := .int .i64 6) (by rfl) rfl rfl rfl (fun W => run_add (by decide) W) ?_
  simp only [putT, List.set]
  refine wpV_nil (hLk _ (fun w94 Sw94 => ?_))
  clear hLk Lk
  simp only [List.take, List.drop]
  replace M := M.sees Sw94
  refine wpL_move (v := .int .i64 6) (by rfl) (by rfl) (by rfl) ?_
  simp only [putT, List.set]
  refine wpL_nil (no_panic ?_)
  refine then_normal (Q := fun _ _ _ => True) ?_
  rw [rounds_succ]
  refine wp_seq_k (fun K95 hK95 => ?_)
  refine wp_region_seq ?_
  refine wpL_chunk 1 (by rfl) (fun Lk hLk => ?_)
  simp only [List.take, List.drop]
  refine wpV_bin (v := .bool true) (by rfl) rfl rfl rfl (fun W => run_lss _ _ _ _ W) ?_
  simp only [putT, List.set]
  refine wpV_nil (hLk _ (fun w97 Sw97 => ?_))
  clear hLk Lk
  simp only [List.take, List.drop]
  replace M := M.sees Sw97
  refine wpL_nil (no_panic ?_)
  refine hK95 _ _ ?_
  refine wp_seq_k (fun K98 hK98 => ?_)
  refine wp_cond_true rfl ?_
  refine wp_skip ?_
  refine hK98 _ _ ?_
  refine wp_seq_k (fun K99 hK99 => ?_)
  refine wp_block ?_
  refine wp_seq_k (fun K100 hK100 => ?_)
  refine wp_region_seq ?_
  refine wpL_move (v := .int .i64 6) (by rfl) (by rfl) (by rfl) ?_
  simp only [putT, List.set]
  refine wpL_chunk 2 (by rfl) (fun Lk hLk => ?_)
  simp only [List.take, List.drop]
  refine wpV_idxs (n := 6) (by rfl) rfl rfl rfl Tryd.underlying32 info25 (by omega) ?_
  simp only [Nat.zero_add]
  simp only [putT, List.set]
  refine wpV_load1 (v := .int .u32 ((H0.g : Nat) : Int)) (by rfl) rfl rfl (zadd ((M.r 0 0 rfl rfl) _ _ rfl)) (M.lt 0 rfl) Tryd.underlying25 rfl ?_
  simp only [putT, List.set]
  refine wpV_nil (hLk _ (fun w102 Sw102 => ?_))
  clear hLk Lk
  simp only [List.take, List.drop]
  replace M := M.sees Sw102
  refine wpL_assign (v := .int .i64 6) (by rfl) (by rfl) (by rfl) ?_
  simp only [putT, List.set]
  refine wpL_assign (v := .int .u32 ((H0.g : Nat) : Int)) (by rfl) (by rfl) (by rfl) ?_
  simp only [putT, List.set]
  refine wpL_nil (no_panic ?_)
  refine hK100 _ _ ?_
  refine wp_region_seq ?_
  refine wpL_move (v := .int .i64 6) (by rfl) (by rfl) (by rfl) ?_
  simp only [putT, List.set]
  refine wpL_move (v := .int .u32 ((H0.g : Nat) : Int)) (by rfl) (by rfl) (by rfl) ?_
  simp only [putT, List.set]
  refine wpL_chunk 2 (by rfl) (fun Lk hLk => ?_)
  simp only [List.take, List.drop]
  refine wpV_val (v := .pointer (some ⟨g8, 0, none⟩)) (by rfl) (by rfl) (fun W hW => ?_) ?_
  · (go_simp; exact rfl)
  simp only [putT, List.set]
  refine wpV_val (v := .pointer (some ⟨g8, 6, none⟩)) (by rfl) (by rfl) (fun W hW => ?_) ?_
  · (go_simp; exact rfl)
  simp only [putT, List.set]
  refine wpV_nil (hLk _ (fun w104 Sw104 => ?_))
  clear hLk Lk
  simp only [List.take, List.drop]
  replace M := M.sees Sw104
  refine wpL_store1 (g := g8) (off := 6) (n := 10) (v := .int .u32 ((H0.g : Nat) : Int)) (by rfl) (by rfl) (by rfl) (by rfl) (by rfl) (M.t 1 rfl) (by decide) info25 rfl (fun w105 P R T => ?_)
  replace M := M.putI (i := 6) 1 0 rfl P R T rfl rfl (by simp) (by simp [SepS, flen])
  simp only [List.set] at M
  refine wpL_nil (no_panic ?_)
  refine hK99 _ _ ?_
  refine wp_region_seq ?_
  refine wpL_chunk 1 (by rfl) (fun Lk hLk => ?_)
  simp only [List.take, List.drop]
  refine wpV_bin (v := .int .i64 7) (by rfl) rfl rfl rfl (fun W => run_add (by decide) W) ?_
  simp only [putT, List.set]
  refine wpV_nil (hLk _ (fun w107 Sw107 => ?_))
  clear hLk Lk
  simp only [List.take, List.drop]
  replace M := M.sees Sw107
  refine wpL_move (v := .int .i64 7) (by rfl) (by rfl) (by rfl) ?_
  simp only [putT, List.set]
  refine wpL_nil (no_panic ?_)
  refine then_normal (Q := fun _ _ _ => True) ?_
  rw [rounds_succ]
  refine wp_seq_k (fun K108 hK108 => ?_)
  refine wp_region_seq ?_
  refine wpL_chunk 1 (by rfl) (fun Lk hLk => ?_)
  simp only [List.take, List.drop]
  refine wpV_bin (v := .bool true) (by rfl) rfl rfl rfl (fun W => run_lss _ _ _ _ W) ?_
  simp only [putT, List.set]
  refine wpV_nil (hLk _ (fun w110 Sw110 => ?_))
  clear hLk Lk
  simp only [List.take, List.drop]
  replace M := M.sees Sw110
  refine wpL_nil (no_panic ?_)
  refine hK108 _ _ ?_
  refine wp_seq_k (fun K111 hK111 => ?_)
  refine wp_cond_true rfl ?_
  refine wp_skip ?_
  refine hK111 _ _ ?_
  refine wp_seq_k (fun K112 hK112 => ?_)
  refine wp_block ?_
  refine wp_seq_k (fun K113 hK113 => ?_)
  refine wp_region_seq ?_
  refine wpL_move (v := .int .i64 7) (by rfl) (by rfl) (by rfl) ?_
  simp only [putT, List.set]
  refine wpL_chunk 2 (by rfl) (fun Lk hLk => ?_)
  simp only [List.take, List.drop]
  refine wpV_idxs (n := 7) (by rfl) rfl rfl rfl Tryd.underlying32 info25 (by omega) ?_
  simp only [Nat.zero_add]
  simp only [putT, List.set]
  refine wpV_load1 (v := .int .u32 ((H0.h : Nat) : Int)) (by rfl) rfl rfl (zadd ((M.r 0 0 rfl rfl) _ _ rfl)) (M.lt 0 rfl) Tryd.underlying25 rfl ?_
  simp only [putT, List.set]
  refine wpV_nil (hLk _ (fun w115 Sw115 => ?_))
  clear hLk Lk
  simp only [List.take, List.drop]
  replace M := M.sees Sw115
  refine wpL_assign (v := .int .i64 7) (by rfl) (by rfl) (by rfl) ?_
  simp only [putT, List.set]
  refine wpL_assign (v := .int .u32 ((H0.h : Nat) : Int)) (by rfl) (by rfl) (by rfl) ?_
  simp only [putT, List.set]
  refine wpL_nil (no_panic ?_)
  refine hK113 _ _ ?_
  refine wp_region_seq ?_
  refine wpL_move (v := .int .i64 7) (by rfl) (by rfl) (by rfl) ?_
  simp only [putT, List.set]
  refine wpL_move (v := .int .u32 ((H0.h : Nat) : Int)) (by rfl) (by rfl) (by rfl) ?_
  simp only [putT, List.set]
  refine wpL_chunk 2 (by rfl) (fun Lk hLk => ?_)
  simp only [List.take, List.drop]
  refine wpV_val (v := .pointer (some ⟨g8, 0, none⟩)) (by rfl) (by rfl) (fun W hW => ?_) ?_
  · (go_simp; exact rfl)
  simp only [putT, List.set]
  refine wpV_val (v := .pointer (some ⟨g8, 7, none⟩)) (by rfl) (by rfl) (fun W hW => ?_) ?_
  · (go_simp; exact rfl)
  simp only [putT, List.set]
  refine wpV_nil (hLk _ (fun w117 Sw117 => ?_))
  clear hLk Lk
  simp only [List.take, List.drop]
  replace M := M.sees Sw117
  refine wpL_store1 (g := g8) (off := 7) (n := 10) (v := .int .u32 ((H0.h : Nat) : Int)) (by rfl) (by rfl) (by rfl) (by rfl) (by rfl) (M.t 1 rfl) (by decide) info25 rfl (fun w118 P R T => ?_)
  replace M := M.putI (i := 7) 1 0 rfl P R T rfl rfl (by simp) (by simp [SepS, flen])
  simp only [List.set] at M
  refine wpL_nil (no_panic ?_)
  refine hK112 _ _ ?_
  refine wp_region_seq ?_
  refine wpL_chunk 1 (by rfl) (fun Lk hLk => ?_)
  simp only [List.take, List.drop]
  refine wpV_bin (v := .int .i64 8) (by rfl) rfl rfl rfl (fun W => run_add (by decide) W) ?_
  simp only [putT, List.set]
  refine wpV_nil (hLk _ (fun w120 Sw120 => ?_))
  clear hLk Lk
  simp only [List.take, List.drop]
  replace M := M.sees Sw120
  refine wpL_move (v := .int .i64 8) (by rfl) (by rfl) (by rfl) ?_
  simp only [putT, List.set]
  refine wpL_nil (no_panic ?_)
  refine then_normal (Q := fun _ _ _ => True) ?_
  rw [rounds_succ]
  refine wp_seq_k (fun K121 hK121 => ?_)
  refine wp_region_seq ?_
  refine wpL_chunk 1 (by rfl) (fun Lk hLk => ?_)
  simp only [List.take, List.drop]
  refine wpV_bin (v := .bool false) (by rfl) rfl rfl rfl (fun W => run_lss _ _ _ _ W) ?_
  simp only [putT, List.set]
  refine wpV_nil (hLk _ (fun w123 Sw123 => ?_))
  clear hLk Lk
  simp only [List.take, List.drop]
  replace M := M.sees Sw123
  refine wpL_nil (no_panic ?_)
  refine hK121 _ _ ?_
  refine wp_seq_k (fun K124 hK124 => ?_)
  refine wp_cond_false rfl ?_
  refine wp_exit ?_
  refine hK11 _ _ ?_
  refine wp_seq_k (fun K125 hK125 => ?_)
  refine wp_region_seq ?_
  refine wpL_chunk 1 (by rfl) (fun Lk hLk => ?_)
  simp only [List.take, List.drop]
  refine wpV_load (cs := [.int .u32 ((H0.a : Nat) : Int), .int .u32 ((H0.b : Nat) : Int), .int .u32 ((H0.c : Nat) : Int), .int .u32 ((H0.d : Nat) : Int), .int .u32 ((H0.e : Nat) : Int), .int .u32 ((H0.f : Nat) : Int), .int .u32 ((H0.g : Nat) : Int), .int .u32 ((H0.h : Nat) : Int)] ++ [.string { data := #[] }] ++ [.int .u64 0]) (by rfl) rfl rfl (range_join (range_join (M.r 1 0 rfl rfl) (M.r 1 1 rfl rfl) (by simp [flen])) (M.r 1 2 rfl rfl) (by simp [flen])) (M.lt 1 rfl) Tryd.underlying29 rfl info29 ?_
  simp only [putT, List.set]
  refine wpV_nil (hLk _ (fun w127 Sw127 => ?_))
  clear hLk Lk
  simp only [List.take, List.drop]
  replace M := M.sees Sw127
  refine wpL_store (g := g3) (off := 0) (n := 10) (cs := [.int .u32 ((H0.a : Nat) : Int), .int .u32 ((H0.b : Nat) : Int), .int .u32 ((H0.c : Nat) : Int), .int .u32 ((H0.d : Nat) : Int), .int .u32 ((H0.e : Nat) : Int), .int .u32 ((H0.f : Nat) : Int), .int .u32 ((H0.g : Nat) : Int), .int .u32 ((H0.h : Nat) : Int)] ++ [.string { data := #[] }] ++ [.int .u64 0]) (by rfl) (by rfl) (by rfl) (by rfl) (by rfl) (M.t 2 rfl) (by simp [flen]) info29 (by simp [fone, Value.oneCell']) (fun w128 P R T => ?_)
  replace M := M.put (segs' := [(0, [.int .u32 ((H0.a : Nat) : Int), .int .u32 ((H0.b : Nat) : Int), .int .u32 ((H0.c : Nat) : Int), .int .u32 ((H0.d : Nat) : Int), .int .u32 ((H0.e : Nat) : Int), .int .u32 ((H0.f : Nat) : Int), .int .u32 ((H0.g : Nat) : Int), .int .u32 ((H0.h : Nat) : Int)]), (8, [.string { data := #[] }]), (9, [.int .u64 0])]) 2 rfl P T (SegsOf.at R ⟨rfl, rfl, rfl, trivial⟩)
  simp only [List.set] at M
  refine wpL_nil (no_panic ?_)
  refine hK125 _ _ ?_
  refine wp_ret ?_
  repeat (first | with_reducible refine then_ret ?_ | with_reducible refine inblock_ret ?_)
  refine bodyPost_ret (v := .agg ([.int .u32 ((H0.a : Nat) : Int), .int .u32 ((H0.b : Nat) : Int), .int .u32 ((H0.c : Nat) : Int), .int .u32 ((H0.d : Nat) : Int), .int .u32 ((H0.e : Nat) : Int), .int .u32 ((H0.f : Nat) : Int), .int .u32 ((H0.g : Nat) : Int), .int .u32 ((H0.h : Nat) : Int)] ++ [.string { data := #[] }] ++ [.int .u64 0] : List Value).toArray) (res1 rfl (.cell (by rfl) (run_loadVar_mid _ _ _ _ ([.int .u32 ((H0.a : Nat) : Int), .int .u32 ((H0.b : Nat) : Int), .int .u32 ((H0.c : Nat) : Int), .int .u32 ((H0.d : Nat) : Int), .int .u32 ((H0.e : Nat) : Int), .int .u32 ((H0.f : Nat) : Int), .int .u32 ((H0.g : Nat) : Int), .int .u32 ((H0.h : Nat) : Int)] ++ [.string { data := #[] }] ++ [.int .u64 0]) _ (range_join (range_join (M.r 2 0 rfl rfl) (M.r 2 1 rfl rfl) (by simp [flen])) (M.r 2 2 rfl rfl) (by simp [flen])) Tryd.underlying29 rfl info29))) rfl ?_
  have BE := M.below
  exact ⟨rfl, BE⟩
set_option maxHeartbeats 2000000 in
theorem rwrite_c {n : Nat} {h : S8} {b l : List UInt8} {w : World} (hh : h.Ok) (hb : b.length < 64) (hl : l.length ≤ 9223372036854775744) :
    Calls Tryd.prog 35 #[.agg ([.int .u32 ((h.a : Nat) : Int), .int .u32 ((h.b : Nat) : Int), .int .u32 ((h.c : Nat) : Int), .int .u32 ((h.d : Nat) : Int), .int .u32 ((h.e : Nat) : Int), .int .u32 ((h.f : Nat) : Int), .int .u32 ((h.g : Nat) : Int), .int .u32 ((h.h : Nat) : Int)] ++ [.string (bs b)] ++ [.int .u64 ((n : Nat) : Int)] : List Value).toArray, .string (bs l)] w fun e w' => e = .returned (.agg ([.int .u32 (((takeH h (b ++ l)).a : Nat) : Int), .int .u32 (((takeH h (b ++ l)).b : Nat) : Int), .int .u32 (((takeH h (b ++ l)).c : Nat) : Int), .int .u32 (((takeH h (b ++ l)).d : Nat) : Int), .int .u32 (((takeH h (b ++ l)).e : Nat) : Int), .int .u32 (((takeH h (b ++ l)).f : Nat) : Int), .int .u32 (((takeH h (b ++ l)).g : Nat) : Int), .int .u32 (((takeH h (b ++ l)).h : Nat) : Int)] ++ [.string (bs (takeR (b ++ l)))] ++ [.int .u64 ((((n + l.length) % 18446744073709551616) : Nat) : Int)] : List Value).toArray) ∧ Below w.heap.size w w' := by
  go_enter Tryd.func35, Tryd.ntmps35
  have M := Mem.start w
  refine wp_seq_k (fun K1 hK1 => ?_)
  refine wp_region_seq ?_
  refine wpL_var (t := 29) (cs := [.int .u32 ((h.a : Nat) : Int), .int .u32 ((h.b : Nat) : Int), .int .u32 ((h.c : Nat) : Int), .int .u32 ((h.d : Nat) : Int), .int .u32 ((h.e : Nat) : Int), .int .u32 ((h.f : Nat) : Int), .int .u32 ((h.g : Nat) : Int), .int .u32 ((h.h : Nat) : Int)] ++ [.string (bs b)] ++ [.int .u64 ((n : Nat) : Int)]) (by rfl) (fun W => ?_) (fun g3 w4 Sw4 Hg3 Bg3 => ?_)
  · (first | rfl | go_simp)
  replace M := ((M.sees Sw4).addS (N := 10) (cs := [.int .u32 ((h.a : Nat) : Int), .int .u32 ((h.b : Nat) : Int), .int .u32 ((h.c : Nat) : Int), .int .u32 ((h.d : Nat) : Int), .int .u32 ((h.e : Nat) : Int), .int .u32 ((h.f : Nat) : Int), .int .u32 ((h.g : Nat) : Int), .int .u32 ((h.h : Nat) : Int)] ++ [.string (bs b)] ++ [.int .u64 ((n : Nat) : Int)]) (segs := [(0, [.int .u32 ((h.a : Nat) : Int), .int .u32 ((h.b : Nat) : Int), .int .u32 ((h.c : Nat) : Int), .int .u32 ((h.d : Nat) : Int), .int .u32 ((h.e : Nat) : Int), .int .u32 ((h.f : Nat) : Int), .int .u32 ((h.g : Nat) : Int), .int .u32 ((h.h : Nat) : Int)]), (8, [.string (bs b)]), (9, [.int .u64 ((n : Nat) : Int)])]) (M.ge Hg3) (M.fresh Hg3) Bg3 (by simp [flen]) ⟨rfl, rfl, rfl, trivial⟩)
  clear Bg3
  simp only [putT, List.set]
  refine wpL_var (t := 29) (cs := [.int .u32 0, .int .u32 0, .int .u32 0, .int .u32 0, .int .u32 0, .int .u32 0, .int .u32 0, .int .u32 0, .string { data := #[] }, .int .u64 0]) (by rfl) (fun W => ?_) (fun g5 w6 Sw6 Hg5 Bg5 => ?_)
  · go_simp
  replace M := ((M.sees Sw6).addS (N := 10) (cs := [.int .u32 0, .int .u32 0, .int .u32 0, .int .u32 0, .int .u32 0, .int .u32 0, .int .u32 0, .int .u32 0, .string { data := #[] }, .int .u64 0]) (segs := [(0, [.int .u32 0, .int .u32 0, .int .u32 0, .int .u32 0, .int .u32 0, .int .u32 0, .int .u32 0, .int .u32 0]), (8, [.string { data := #[] }]), (9, [.int .u64 0])]) (M.ge Hg5) (M.fresh Hg5) Bg5 rfl ⟨rfl, rfl, rfl, trivial⟩)
  clear Bg5
  simp only [putT, List.set]
  refine wpL_nil (no_panic ?_)
  refine hK1 _ _ ?_
  refine wp_seq_k (fun K7 hK7 => ?_)
  refine wp_region_seq ?_
  refine wpL_callE (f := 25) (args := #[]) (R := MemRow w6 64 (kcells)) (by rfl) (by rfl) rfl Tryd.func25 (by kernel_rfl) (by kernel_rfl) (keys_c) (fun v9 w10 hv9 Sw10 => ?_)
  obtain ⟨g9, g9c, rfl, Cg9, M9⟩ := hv9
  replace M := M.call1 M9
  simp only [putT, List.set]
  refine wpL_assign (v := .slice (some ⟨g9, 0, none⟩) 64 g9c) (by rfl) (by rfl) (by rfl) ?_
  simp only [putT, List.set]
  refine wpL_nil (no_panic ?_)
  refine hK7 _ _ ?_
  refine wp_seq_k (fun K11 hK11 => ?_)
  refine wp_region_seq ?_
  refine wpL_chunk 4 (by rfl) (fun Lk hLk => ?_)
  simp only [List.take, List.drop]
  refine wpV_val (v := .pointer (some ⟨g3, 8, none⟩)) (by rfl) (by rfl) (fun W hW => ?_) ?_
  · (go_simp; exact rfl)
  simp only [putT, List.set]
  refine wpV_load1 (v := .string (bs b)) (by rfl) rfl rfl (range_one (M.r 2 1 rfl rfl)) (M.lt 2 rfl) Tryd.underlying9 rfl ?_
  simp only [putT, List.set]
  refine wpV_move (v := .string (bs l)) (by rfl) rfl rfl ?_
  simp only [putT, List.set]
  refine wpV_binS (v := .string (bs (b ++ l))) (by rfl) rfl rfl rfl (run_add_bs _ _ _ (by omega)) ?_
  simp only [putT, List.set]
  refine wpV_nil (hLk _ (fun w13 Sw13 => ?_))
  clear hLk Lk
  simp only [List.take, List.drop]
  replace M := M.sees Sw13
  refine wpL_assign (v := .string (bs (b ++ l))) (by rfl) (by rfl) (by rfl) ?_
  simp only [putT, List.set]
  refine wpL_nil (no_panic ?_)
  refine hK11 _ _ ?_
  refine wp_seq_k (fun K14 hK14 => ?_)
  refine wp_block ?_
  refine wp_loop_ghost (fun n9 a9 W9 => ∃ (r : List UInt8) (s : S8) (u15 : Nat → Value), n9 = r.length ∧ a9 = { tmps := #[.agg ([.int .u32 ((h.a : Nat) : Int), .int .u32 ((h.b : Nat) : Int), .int .u32 ((h.c : Nat) : Int), .int .u32 ((h.d : Nat) : Int), .int .u32 ((h.e : Nat) : Int), .int .u32 ((h.f : Nat) : Int), .int .u32 ((h.g : Nat) : Int), .int .u32 ((h.h : Nat) : Int)] ++ [.string (bs b)] ++ [.int .u64 ((n : Nat) : Int)] : List Value).toArray, .string (bs l), .pointer (some ⟨g3, 0, none⟩), undef, .pointer (some ⟨g5, 0, none⟩), .slice (some ⟨g9, 0, none⟩) 64 g9c, .string (bs r), .slice (some ⟨g9, 0, none⟩) 64 g9c, .pointer (some ⟨g3, 8, none⟩), .string (bs b), .string (bs l), .string (bs (b ++ l)), u15 12, u15 13, u15 14, u15 15, u15 16, u15 17, u15 18, u15 19, u15 20, u15 21, u15 22, u15 23, undef, undef, undef, undef, undef, undef, undef, undef, undef, undef], defers := [] } ∧ Mem [] w W9 [⟨g9, g9c, [(0, kcells)]⟩, ⟨g5, 10, [(0, [.int .u32 0, .int .u32 0, .int .u32 0, .int .u32 0, .int .u32 0, .int .u32 0, .int .u32 0, .int .u32 0]), (8, [.string { data := #[] }]), (9, [.int .u64 0])]⟩, ⟨g3, 10, [(0, [.int .u32 ((s.a : Nat) : Int), .int .u32 ((s.b : Nat) : Int), .int .u32 ((s.c : Nat) : Int), .int .u32 ((s.d : Nat) : Int), .int .u32 ((s.e : Nat) : Int), .int .u32 ((s.f : Nat) : Int), .int .u32 ((s.g : Nat) : Int), .int .u32 ((s.h : Nat) : Int)]), (8, [.string (bs b)]), (9, [.int .u64 ((n : Nat) : Int)])]⟩] ∧ (s.Ok) ∧ (takeH s r = takeH h (b ++ l)) ∧ (takeR r = takeR (b ++ l))) ((b ++ l).length) ?_ (fun n9 a9 W9 hI => ?_)
  · exact ⟨(b ++ l), h, (fun q9 => (#[undef, undef, undef, undef, undef, undef, undef, undef, undef, undef, undef, undef, undef, undef, undef, undef, undef, undef, undef, undef, undef, undef, undef, undef] : Array Value).getD q9 undef), rfl, rfl, M, hh, rfl, rfl⟩
  clear M
  obtain ⟨r, s, u15, rfl, rfl, M, hs, hH, hR⟩ := hI
  obtain ⟨w16, rfl⟩ : ∃ W8, W8 = W9 := ⟨_, rfl⟩
  refine wp_seq_k (fun K17 hK17 => ?_)
  refine wp_seq_k (fun K18 hK18 => ?_)
  refine wp_region_seq ?_
  refine wpL_move (v := .string (bs r)) (by rfl) (by rfl) (by rfl) ?_
  simp only [putT, List.set]
  refine wpL_chunk 2 (by rfl) (fun Lk hLk => ?_)
  simp only [List.take, List.drop]
  refine wpV_lenS (by rfl) rfl rfl rfl Tryd.underlying9 ?_
  simp only [putT, List.set]
  refine wpV_bin (v := .bool (decide (64 ≤ r.length))) (by rfl) rfl rfl rfl (fun W => run_geqN r.length 64 _ _ W) ?_
  simp only [putT, List.set]
  refine wpV_nil (hLk _ (fun w20 Sw20 => ?_))
  clear hLk Lk
  simp only [List.take, List.drop]
  replace M := M.sees Sw20
  refine wpL_nil (no_panic ?_)
  refine hK18 _ _ ?_
  cases hc21 : (decide (64 ≤ r.length))
  · skip
    have h64 : ¬ 64 ≤ r.length := of_decide_eq_false hc21
    rw [takeH_done h64] at hH
    rw [takeR_done h64] at hR
    subst hH hR
    refine wp_cond_false rfl ?_
    refine wp_exit ?_
    refine hK14 _ _ ?_
    refine wp_seq_k (fun K22 hK22 => ?_)
    refine wp_region_seq ?_
    refine wpL_move (v := .string (bs (takeR (b ++ l)))) (by rfl) (by rfl) (by rfl) ?_
    simp only [putT, List.set]
    refine wpL_chunk 1 (by rfl) (fun Lk hLk => ?_)
    simp only [List.take, List.drop]
    refine wpV_val (v := .pointer (some ⟨g3, 8, none⟩)) (by rfl) (by rfl) (fun W hW => ?_) ?_
    · (go_simp; exact rfl)
    simp only [putT, List.set]
    refine wpV_nil (hLk _ (fun w24 Sw24 => ?_))
    clear hLk Lk
    simp only [List.take, List.drop]
    replace M := M.sees Sw24
    refine wpL_store1 (g := g3) (off := 8) (n := 10) (v := .string (bs (takeR (b ++ l)))) (by rfl) (by rfl) (by rfl) (by rfl) (by rfl) (M.t 2 rfl) (by decide) info9 rfl (fun w25 P R T => ?_)
    replace M := M.putS (new := [.string (bs (takeR (b ++ l)))]) 2 1 rfl P R T rfl (by simp [SepS, flen])
    simp only [List.set] at M
    refine wpL_nil (no_panic ?_)
    refine hK22 _ _ ?_
    refine wp_seq_k (fun K26 hK26 => ?_)
    refine wp_region_seq ?_
    refine wpL_chunk 7 (by rfl) (fun Lk hLk => ?_)
    simp only [List.take, List.drop]
    refine wpV_val (v := .pointer (some ⟨g3, 9, none⟩)) (by rfl) (by rfl) (fun W hW => ?_) ?_
    · (go_simp; exact rfl)
    simp only [putT, List.set]
    refine wpV_load1 (v := .int .u64 ((n : Nat) : Int)) (by rfl) rfl rfl (range_one (M.r 2 2 rfl rfl)) (M.lt 2 rfl) Tryd.underlying27 rfl ?_
    simp only [putT, List.set]
    refine wpV_move (v := .string (bs l)) (by rfl) rfl rfl ?_
    simp only [putT, List.set]
    refine wpV_lenS (by rfl) rfl rfl rfl Tryd.underlying9 ?_
    simp only [putT, List.set]
    refine wpV_conv (d := .bool) (e := ((l.length : Nat) : Int)) (by rfl) rfl rfl (run_conv_int Tryd.underlying3 Tryd.underlying27 ((wrap64N _).trans (congrArg _ (Nat.mod_eq_of_lt (by omega))))) ?_
    simp only [putT, List.set]
    refine wpV_bin (v := .int .u64 (((n + l.length) % 18446744073709551616 : Nat) : Int)) (by rfl) rfl rfl rfl (fun W => nr_add64 _ n l.length W) ?_
    simp only [putT, List.set]
    refine wpV_val (v := .pointer (some ⟨g3, 9, none⟩)) (by rfl) (by rfl) (fun W hW => ?_) ?_
    · (go_simp; exact rfl)
    simp only [putT, List.set]
    refine wpV_nil (hLk _ (fun w28 Sw28 => ?_))
    clear hLk Lk
    simp only [List.take, List.drop]
    replace M := M.sees Sw28
    refine wpL_store1 (g := g3) (off := 9) (n := 10) (v := .int .u64 (((n + l.length) % 18446744073709551616 : Nat) : Int)) (by rfl) (by rfl) (by rfl) (by rfl) (by rfl) (M.t 2 rfl) (by decide) info27 rfl (fun w29 P R T => ?_)
    replace M := M.putS (new := [.int .u64 (((n + l.length) % 18446744073709551616 : Nat) : Int)]) 2 2 rfl P R T rfl (by simp [SepS, flen])
    simp only [List.set] at M
    refine wpL_nil (no_panic ?_)
    refine hK26 _ _ ?_
    refine wp_seq_k (fun K30 hK30 => ?_)
    refine wp_region_seq ?_
    refine wpL_chunk 1 (by rfl) (fun Lk hLk => ?_)
    simp only [List.take, List.drop]
    refine wpV_load (cs := [.int .u32 (((takeH h (b ++ l)).a : Nat) : Int), .int .u32 (((takeH h (b ++ l)).b : Nat) : Int), .int .u32 (((takeH h (b ++ l)).c : Nat) : Int), .int .u32 (((takeH h (b ++ l)).d : Nat) : Int), .int .u32 (((takeH h (b ++ l)).e : Nat) : Int), .int .u32 (((takeH h (b ++ l)).f : Nat) : Int), .int .u32 (((takeH h (b ++ l)).g : Nat) : Int), .int .u32 (((takeH h (b ++ l)).h : Nat) : Int)] ++ [.string (bs (takeR (b ++ l)))] ++ [.int .u64 (((n + l.length) % 18446744073709551616 : Nat) : Int)]) (by rfl) rfl rfl (range_join (range_join (M.r 2 0 rfl rfl) (M.r 2 1 rfl rfl) (by simp [flen])) (M.r 2 2 rfl rfl) (by simp [flen])) (M.lt 2 rfl) Tryd.underlying29 rfl info29 ?_
    simp only [putT, List.set]
    refine wpV_nil (hLk _ (fun w32 Sw32 => ?_))
    clear hLk Lk
    simp only [List.take, List.drop]
    replace M := M.sees Sw32
    refine wpL_store (g := g5) (off := 0) (n := 10) (cs := [.int .u32 (((takeH h (b ++ l)).a : Nat) : Int), .int .u32 (((takeH h (b ++ l)).b : Nat) : Int), .int .u32 (((takeH h (b ++ l)).c : Nat) : Int), .int .u32 (((takeH h (b ++ l)).d : Nat) : Int), .int .u32 (((takeH h (b ++ l)).e : Nat) : Int), .int .u32 (((takeH h (b ++ l)).f : Nat) : Int), .int .u32 (((takeH h (b ++ l)).g : Nat) : Int), .int .u32 (((takeH h (b ++ l)).h : Nat) : Int)] ++ [.string (bs (takeR (b ++ l)))] ++ [.int .u64 (((n + l.length) % 18446744073709551616 : Nat) : Int)]) (by rfl) (by rfl) (by rfl) (by rfl) (by rfl) (M.t 1 rfl) (by simp [flen]) info29 (by simp [fone, Value.oneCell']) (fun w33 P R T => ?_)
    replace M := M.put (segs' := [(0, [.int .u32 (((takeH h (b ++ l)).a : Nat) : Int), .int .u32 (((takeH h (b ++ l)).b : Nat) : Int), .int .u32 (((takeH h (b ++ l)).c : Nat) : Int), .int .u32 (((takeH h (b ++ l)).d : Nat) : Int), .int .u32 (((takeH h (b ++ l)).e : Nat) : Int), .int .u32 (((takeH h (b ++ l)).f : Nat) : Int), .int .u32 (((takeH h (b ++ l)).g : Nat) : Int), .int .u32 (((takeH h (b ++ l)).h : Nat) : Int)]), (8, [.string (bs (takeR (b ++ l)))]), (9, [.int .u64 (((n + l.length) % 18446744073709551616 : Nat) : Int)])]) 1 rfl P T (SegsOf.at R ⟨rfl, rfl, rfl, trivial⟩)
    simp only [List.set] at M
    refine wpL_nil (no_panic ?_)
    refine hK30 _ _ ?_
    refine wp_ret ?_
    repeat (first | with_reducible refine then_ret ?_ | with_reducible refine inblock_ret ?_)
    refine bodyPost_ret (v := .agg ([.int .u32 (((takeH h (b ++ l)).a : Nat) : Int), .int .u32 (((takeH h (b ++ l)).b : Nat) : Int), .int .u32 (((takeH h (b ++ l)).c : Nat) : Int), .int .u32 (((takeH h (b ++ l)).d : Nat) : Int), .int .u32 (((takeH h (b ++ l)).e : Nat) : Int), .int .u32 (((takeH h (b ++ l)).f : Nat) : Int), .int .u32 (((takeH h (b ++ l)).g : Nat) : Int), .int .u32 (((takeH h (b ++ l)).h : Nat) : Int)] ++ [.string (bs (takeR (b ++ l)))] ++ [.int .u64 (((n + l.length) % 18446744073709551616 : Nat) : Int)] : List Value).toArray) (res1 rfl (.cell (by rfl) (run_loadVar_mid _ _ _ _ ([.int .u32 (((takeH h (b ++ l)).a : Nat) : Int), .int .u32 (((takeH h (b ++ l)).b : Nat) : Int), .int .u32 (((takeH h (b ++ l)).c : Nat) : Int), .int .u32 (((takeH h (b ++ l)).d : Nat) : Int), .int .u32 (((takeH h (b ++ l)).e : Nat) : Int), .int .u32 (((takeH h (b ++ l)).f : Nat) : Int), .int .u32 (((takeH h (b ++ l)).g : Nat) : Int), .int .u32 (((takeH h (b ++ l)).h : Nat) : Int)] ++ [.string (bs (takeR (b ++ l)))] ++ [.int .u64 (((n + l.length) % 18446744073709551616 : Nat) : Int)]) _ (range_join (range_join (M.r 1 0 rfl rfl) (M.r 1 1 rfl rfl) (by simp [flen])) (M.r 1 2 rfl rfl) (by simp [flen])) Tryd.underlying29 rfl info29))) rfl ?_
    have BE := M.below
    exact ⟨rfl, BE⟩
  · skip
    have h64 : 64 ≤ r.length := of_decide_eq_true hc21
    refine wp_cond_true rfl ?_
    refine wp_skip ?_
    refine hK17 _ _ ?_
    refine wp_block ?_
    refine wp_seq_k (fun K34 hK34 => ?_)
    refine wp_region_grow 7 [] (by kernel_rfl) (by kernel_rfl) (by kernel_rfl) (fun Lk hLk => ?_)
    simp only [List.take, List.drop]
    refine wpV_val (v := .pointer (some ⟨g3, 0, none⟩)) (by rfl) (by rfl) (fun W hW => ?_) ?_
    · (go_simp; exact rfl)
    simp only [putT, List.set]
    refine wpV_load (cs := [.int .u32 ((s.a : Nat) : Int), .int .u32 ((s.b : Nat) : Int), .int .u32 ((s.c : Nat) : Int), .int .u32 ((s.d : Nat) : Int), .int .u32 ((s.e : Nat) : Int), .int .u32 ((s.f : Nat) : Int), .int .u32 ((s.g : Nat) : Int), .int .u32 ((s.h : Nat) : Int)]) (by rfl) rfl rfl (M.r 2 0 rfl rfl) (M.lt 2 rfl) Tryd.underlying26 rfl info26 ?_
    simp only [putT, List.set]
    refine wpV_move (v := .string (bs r)) (by rfl) rfl rfl ?_
    simp only [putT, List.set]
    refine wpV_takeS (l := r) (hi := 64) (by rfl) rfl rfl rfl Tryd.underlying9 h64 ?_
    simp only [putT, List.set]
    refine wpV_move (v := .slice (some ⟨g9, 0, none⟩) 64 g9c) (by rfl) rfl rfl ?_
    simp only [putT, List.set]
    refine wpV_callf (v := .agg ([.int .u32 (((mixS s r).a : Nat) : Int), .int .u32 (((mixS s r).b : Nat) : Int), .int .u32 (((mixS s r).c : Nat) : Int), .int .u32 (((mixS s r).d : Nat) : Int), .int .u32 (((mixS s r).e : Nat) : Int), .int .u32 (((mixS s r).f : Nat) : Int), .int .u32 (((mixS s r).g : Nat) : Int), .int .u32 (((mixS s r).h : Nat) : Int)]).toArray) (args := #[.agg ([.int .u32 ((s.a : Nat) : Int), .int .u32 ((s.b : Nat) : Int), .int .u32 ((s.c : Nat) : Int), .int .u32 ((s.d : Nat) : Int), .int .u32 ((s.e : Nat) : Int), .int .u32 ((s.f : Nat) : Int), .int .u32 ((s.g : Nat) : Int), .int .u32 ((s.h : Nat) : Int)]).toArray, .string (bs (r.take 64)), .slice (some ⟨g9, 0, none⟩) 64 g9c]) (by rfl) rfl Tryd.func74 (by kernel_rfl) (by kernel_rfl) rfl (fun W hW => (by have := rmix_c (h := s) (l := r.take 64) (w := W) hs (by rw [List.length_take]; omega) Cg9 ((M.sees hW).lt 0 rfl) ((M.sees hW).r 0 0 rfl rfl); rw [mixS_take] at this; exact this)) ?_
    simp only [putT, List.set]
    refine wpV_val (v := .pointer (some ⟨g3, 0, none⟩)) (by rfl) (by rfl) (fun W hW => ?_) ?_
    · (go_simp; exact rfl)
    simp only [putT, List.set]
    refine wpV_nil (hLk.out _ ?_)
    clear hLk Lk
    simp only [List.take, List.drop]
    iterate 7 refine wpN_skip (by rfl) ?_
    refine wpN_nil (fun w36 Sw36 hbs => ?_)
    clear hbs
    replace M := M.sees Sw36
    refine wpL_store (g := g3) (off := 0) (n := 10) (cs := [.int .u32 (((mixS s r).a : Nat) : Int), .int .u32 (((mixS s r).b : Nat) : Int), .int .u32 (((mixS s r).c : Nat) : Int), .int .u32 (((mixS s r).d : Nat) : Int), .int .u32 (((mixS s r).e : Nat) : Int), .int .u32 (((mixS s r).f : Nat) : Int), .int .u32 (((mixS s r).g : Nat) : Int), .int .u32 (((mixS s r).h : Nat) : Int)]) (by rfl) (by rfl) (by rfl) (by rfl) (by rfl) (M.t 2 rfl) (by simp [flen]) info26 (by simp [fone, Value.oneCell']) (fun w37 P R T => ?_)
    replace M := M.putS 2 0 rfl P R T rfl (by simp [SepS, flen])
    simp only [List.set] at M
    refine wpL_nil (no_panic ?_)
    refine hK34 _ _ ?_
    refine wp_region_seq ?_
    refine wpL_move (v := .string (bs r)) (by rfl) (by rfl) (by rfl) ?_
    simp only [putT, List.set]
    refine wpL_chunk 1 (by rfl) (fun Lk hLk => ?_)
    simp only [List.take, List.drop]
    refine wpV_drop (l := r) (lo := 64) (by rfl) rfl rfl rfl Tryd.underlying9 h64 ?_
    simp only [putT, List.set]
    refine wpV_nil (hLk _ (fun w39 Sw39 => ?_))
    clear hLk Lk
    simp only [List.take, List.drop]
    replace M := M.sees Sw39
    refine wpL_assign (v := .string (bs (r.drop 64))) (by rfl) (by rfl) (by rfl) ?_
    simp only [putT, List.set]
    refine wpL_nil (no_panic ?_)
    refine Exists.intro _ ⟨?_, (r.drop 64), (mixS s r), (fun q9 => (#[undef, undef, undef, undef, undef, undef, undef, undef, undef, undef, undef, undef, .string (bs r), .int .i64 ((r.length : Nat) : Int), .bool true, .pointer (some ⟨g3, 0, none⟩), .agg ([.int .u32 ((s.a : Nat) : Int), .int .u32 ((s.b : Nat) : Int), .int .u32 ((s.c : Nat) : Int), .int .u32 ((s.d : Nat) : Int), .int .u32 ((s.e : Nat) : Int), .int .u32 ((s.f : Nat) : Int), .int .u32 ((s.g : Nat) : Int), .int .u32 ((s.h : Nat) : Int)]).toArray, .string (bs r), .string (bs (r.take 64)), .slice (some ⟨g9, 0, none⟩) 64 g9c, .agg ([.int .u32 (((mixS s r).a : Nat) : Int), .int .u32 (((mixS s r).b : Nat) : Int), .int .u32 (((mixS s r).c : Nat) : Int), .int .u32 (((mixS s r).d : Nat) : Int), .int .u32 (((mixS s r).e : Nat) : Int), .int .u32 (((mixS s r).f : Nat) : Int), .int .u32 (((mixS s r).g : Nat) : Int), .int .u32 (((mixS s r).h : Nat) : Int)]).toArray, .pointer (some ⟨g3, 0, none⟩), .string (bs r), .string (bs (r.drop 64))] : Array Value).getD q9 undef), rfl, rfl, M, (plus8_ok ..), ((takeH_more h64).symm.trans hH), ((takeR_more h64).symm.trans hR)⟩
    rw [List.length_drop]; omega
end Go.Proofs.Yb
