import Derived.WalkKit
import Derived.WalkSpells
import Derived.Laws.Pointers
import Derived.RowKit3
import Derived.Below
import Derived.Outline
import Derived.LoopN
import Derived.Lib.Hide
import Derived.Handy
import Derived.Laws.Bits64b
import Derived.Test.YticcchgckljlnaaDoorRf1
import Derived.Test.YticcchgckljlnaaDoorTr2
set_option linter.unusedSimpArgs false
set_option linter.unusedVariables false
namespace Go.Proofs.Yb
open Go Go.RowKit Go.Proofs.Num
open List renaming set → Z0, take → Z1, drop → Z2
open Go renaming undef → Z3, wp_seq_k → Z4, wp_cond_true → Z5, wp_cond_false → Z6
open Go.Proofs.Num renaming putT → Z7, wp_region_seq → Z8, wpL_nil → Z9, no_panic → Z10, wpL_chunk → Z11, wpL_move → Z12, wpL_assign → Z13, wpV_nil → Z14, wpV_bin → Z15, wpV_move → Z16, then_normal → Z17, wpL_store1 → Z18, wpV_val → Z19, wpV_callf → Z20
set_option maxHeartbeats 1000000 in
theorem first_c  {w : World}  :
  Calls Tryd.prog 27 #[] w fun e w' => ∃ v, e = .returned v ∧ MemRow w 8 ([.int .u32 ((H0.a : Nat) : Int), .int .u32 ((H0.b : Nat) : Int), .int .u32 ((H0.c : Nat) : Int), .int .u32 ((H0.d : Nat) : Int), .int .u32 ((H0.e : Nat) : Int), .int .u32 ((H0.f : Nat) : Int), .int .u32 ((H0.g : Nat) : Int), .int .u32 ((H0.h : Nat) : Int)]) v w' ∧ Below w.heap.size w w' := by
 go_enter Tryd.func27, Tryd.ntmps27
 have M := Mem.start w
 refine Z4 (fun K1 hK1 => ?_)
 refine Z8 ?_
 refine Z13 (v := (.slice none 0 0)) (by rfl) (by rfl) (by rfl) ?_
 simp only [Z7,Z0]
 refine Z9 (Z10 ?_)
 refine hK1 _ _ ?_
 refine Z4 (fun K3 hK3 => ?_)
 refine Z8 ?_
 refine wpL_rowN (vs := [.int .u32 1779033703, .int .u32 3144134277, .int .u32 1013904242, .int .u32 2773480762, .int .u32 1359893119, .int .u32 2600822924, .int .u32 528734635, .int .u32 1541459225]) (z := .int .u32 0) (bytes := 4) (by rfl) (by rfl) Tryd.underlying32 (by kernel_rfl) (by decide) (by kernel_rfl) (fun g5 w6 Sw6 Hg5 Bg5 => ?_)
 replace M := ((M.sees Sw6).add (N := 8) (cs := [.int .u32 1779033703, .int .u32 3144134277, .int .u32 1013904242, .int .u32 2773480762, .int .u32 1359893119, .int .u32 2600822924, .int .u32 528734635, .int .u32 1541459225]) (M.ge Hg5) (M.fresh Hg5) Bg5 rfl)
 clear Bg5
 simp only [Z7,Z0]
 refine Z13 (v := .slice (some ⟨g5, 0, none⟩) 8 8) (by rfl) (by rfl) (by rfl) ?_
 simp only [Z7,Z0]
 refine Z9 (Z10 ?_)
 refine hK3 _ _ ?_
 refine wp_ret ?_
 repeat (first | with_reducible refine then_ret ?_ | with_reducible refine inblock_ret ?_)
 refine bodyPost_ret (v := .slice (some ⟨g5, 0, none⟩) 8 8) (res1 rfl (.tmp (by rfl))) rfl ?_
 have BE := M.below
 exact ⟨_, rfl, ⟨g5, 8, rfl, (Nat.le_refl _), M.pick [0] (by decide) rfl⟩, BE⟩
set_option maxHeartbeats 1000000 in
theorem keys_c  {w : World}  :
  Calls Tryd.prog 25 #[] w fun e w' => ∃ v, e = .returned v ∧ MemRow w 64 (kcells) v w' ∧ Below w.heap.size w w' := by
 go_enter Tryd.func25, Tryd.ntmps25
 have M := Mem.start w
 refine Z4 (fun K1 hK1 => ?_)
 refine Z8 ?_
 refine Z13 (v := (.slice none 0 0)) (by rfl) (by rfl) (by rfl) ?_
 simp only [Z7,Z0]
 refine Z9 (Z10 ?_)
 refine hK1 _ _ ?_
 refine Z4 (fun K3 hK3 => ?_)
 refine Z8 ?_
 refine wpL_rowN (vs := [.int .u32 1116352408, .int .u32 1899447441, .int .u32 3049323471, .int .u32 3921009573, .int .u32 961987163, .int .u32 1508970993, .int .u32 2453635748, .int .u32 2870763221, .int .u32 3624381080, .int .u32 310598401, .int .u32 607225278, .int .u32 1426881987, .int .u32 1925078388, .int .u32 2162078206, .int .u32 2614888103, .int .u32 3248222580, .int .u32 3835390401, .int .u32 4022224774, .int .u32 264347078, .int .u32 604807628, .int .u32 770255983, .int .u32 1249150122, .int .u32 1555081692, .int .u32 1996064986, .int .u32 2554220882, .int .u32 2821834349, .int .u32 2952996808, .int .u32 3210313671, .int .u32 3336571891, .int .u32 3584528711, .int .u32 113926993, .int .u32 338241895, .int .u32 666307205, .int .u32 773529912, .int .u32 1294757372, .int .u32 1396182291, .int .u32 1695183700, .int .u32 1986661051, .int .u32 2177026350, .int .u32 2456956037, .int .u32 2730485921, .int .u32 2820302411, .int .u32 3259730800, .int .u32 3345764771, .int .u32 3516065817, .int .u32 3600352804, .int .u32 4094571909, .int .u32 275423344, .int .u32 430227734, .int .u32 506948616, .int .u32 659060556, .int .u32 883997877, .int .u32 958139571, .int .u32 1322822218, .int .u32 1537002063, .int .u32 1747873779, .int .u32 1955562222, .int .u32 2024104815, .int .u32 2227730452, .int .u32 2361852424, .int .u32 2428436474, .int .u32 2756734187, .int .u32 3204031479, .int .u32 3329325298]) (z := .int .u32 0) (bytes := 4) (by rfl) (by rfl) Tryd.underlying32 (by kernel_rfl) (by decide) (by kernel_rfl) (fun g5 w6 Sw6 Hg5 Bg5 => ?_)
 replace M := ((M.sees Sw6).add (N := 64) (cs := [.int .u32 1116352408, .int .u32 1899447441, .int .u32 3049323471, .int .u32 3921009573, .int .u32 961987163, .int .u32 1508970993, .int .u32 2453635748, .int .u32 2870763221, .int .u32 3624381080, .int .u32 310598401, .int .u32 607225278, .int .u32 1426881987, .int .u32 1925078388, .int .u32 2162078206, .int .u32 2614888103, .int .u32 3248222580, .int .u32 3835390401, .int .u32 4022224774, .int .u32 264347078, .int .u32 604807628, .int .u32 770255983, .int .u32 1249150122, .int .u32 1555081692, .int .u32 1996064986, .int .u32 2554220882, .int .u32 2821834349, .int .u32 2952996808, .int .u32 3210313671, .int .u32 3336571891, .int .u32 3584528711, .int .u32 113926993, .int .u32 338241895, .int .u32 666307205, .int .u32 773529912, .int .u32 1294757372, .int .u32 1396182291, .int .u32 1695183700, .int .u32 1986661051, .int .u32 2177026350, .int .u32 2456956037, .int .u32 2730485921, .int .u32 2820302411, .int .u32 3259730800, .int .u32 3345764771, .int .u32 3516065817, .int .u32 3600352804, .int .u32 4094571909, .int .u32 275423344, .int .u32 430227734, .int .u32 506948616, .int .u32 659060556, .int .u32 883997877, .int .u32 958139571, .int .u32 1322822218, .int .u32 1537002063, .int .u32 1747873779, .int .u32 1955562222, .int .u32 2024104815, .int .u32 2227730452, .int .u32 2361852424, .int .u32 2428436474, .int .u32 2756734187, .int .u32 3204031479, .int .u32 3329325298]) (M.ge Hg5) (M.fresh Hg5) Bg5 rfl)
 clear Bg5
 simp only [Z7,Z0]
 refine Z13 (v := .slice (some ⟨g5, 0, none⟩) 64 64) (by rfl) (by rfl) (by rfl) ?_
 simp only [Z7,Z0]
 refine Z9 (Z10 ?_)
 refine hK3 _ _ ?_
 refine wp_ret ?_
 repeat (first | with_reducible refine then_ret ?_ | with_reducible refine inblock_ret ?_)
 refine bodyPost_ret (v := .slice (some ⟨g5, 0, none⟩) 64 64) (res1 rfl (.tmp (by rfl))) rfl ?_
 have BE := M.below
 exact ⟨_, rfl, ⟨g5, 64, rfl, (Nat.le_refl _), M.pick [0] (by decide) rfl⟩, BE⟩
set_option maxHeartbeats 2000000 in
theorem rnew_c  {w : World}  :
  Calls Tryd.prog 23 #[] w fun e w' => e = .returned (.agg ([.int .u32 ((H0.a : Nat) : Int), .int .u32 ((H0.b : Nat) : Int), .int .u32 ((H0.c : Nat) : Int), .int .u32 ((H0.d : Nat) : Int), .int .u32 ((H0.e : Nat) : Int), .int .u32 ((H0.f : Nat) : Int), .int .u32 ((H0.g : Nat) : Int), .int .u32 ((H0.h : Nat) : Int)] ++ [.string (bs [])] ++ [.int .u64 ((0 : Nat) : Int)] : List Value).toArray) ∧ Below w.heap.size w w' := by
 go_enter Tryd.func23, Tryd.ntmps23
 have M := Mem.start w
 refine Z4 (fun K1 hK1 => ?_)
 refine Z8 ?_
 refine wpL_var (t := 29) (cs := [.int .u32 0, .int .u32 0, .int .u32 0, .int .u32 0, .int .u32 0, .int .u32 0, .int .u32 0, .int .u32 0, .string { data := #[] }, .int .u64 0]) (by rfl) (fun W => ?_) (fun g3 w4 Sw4 Hg3 Bg3 => ?_)
 ·
  go_simp
 replace M := ((M.sees Sw4).addS (N := 10) (cs := [.int .u32 0, .int .u32 0, .int .u32 0, .int .u32 0, .int .u32 0, .int .u32 0, .int .u32 0, .int .u32 0, .string { data := #[] }, .int .u64 0]) (segs := [(0, [.int .u32 0, .int .u32 0, .int .u32 0, .int .u32 0, .int .u32 0, .int .u32 0, .int .u32 0, .int .u32 0]), (8, [.string { data := #[] }]), (9, [.int .u64 0])]) (M.ge Hg3) (M.fresh Hg3) Bg3 rfl ⟨rfl, rfl, rfl, trivial⟩)
 clear Bg3
 simp only [Z7,Z0]
 refine Z9 (Z10 ?_)
 refine hK1 _ _ ?_
 refine Z4 (fun K5 hK5 => ?_)
 refine Z8 ?_
 refine Z11 1 (by rfl) (fun Lk hLk => ?_)
 simp only [Z1,Z2]
 refine Z19 (v := .agg ([.int .u32 0, .int .u32 0, .int .u32 0, .int .u32 0, .int .u32 0, .int .u32 0, .int .u32 0, .int .u32 0, .string { data := #[] }, .int .u64 0]).toArray) (by rfl) (by rfl) (fun W hW => ?_) ?_
 ·
  (unfold RunsVal; kernel_rfl)
 simp only [Z7,Z0]
 refine Z14 (hLk _ (fun w7 Sw7 => ?_))
 clear hLk Lk
 simp only [Z1,Z2]
 replace M := M.sees Sw7
 refine wpL_var (t := 29) (cs := [.int .u32 0, .int .u32 0, .int .u32 0, .int .u32 0, .int .u32 0, .int .u32 0, .int .u32 0, .int .u32 0, .string { data := #[] }, .int .u64 0]) (by rfl) (fun W => ?_) (fun g8 w9 Sw9 Hg8 Bg8 => ?_)
 ·
  go_simp
 replace M := ((M.sees Sw9).addS (N := 10) (cs := [.int .u32 0, .int .u32 0, .int .u32 0, .int .u32 0, .int .u32 0, .int .u32 0, .int .u32 0, .int .u32 0, .string { data := #[] }, .int .u64 0]) (segs := [(0, [.int .u32 0, .int .u32 0, .int .u32 0, .int .u32 0, .int .u32 0, .int .u32 0, .int .u32 0, .int .u32 0]), (8, [.string { data := #[] }]), (9, [.int .u64 0])]) (M.ge Hg8) (M.fresh Hg8) Bg8 rfl ⟨rfl, rfl, rfl, trivial⟩)
 clear Bg8
 simp only [Z7,Z0]
 refine wpL_store (g := g8) (off := 0) (n := 10) (cs := [.int .u32 0, .int .u32 0, .int .u32 0, .int .u32 0, .int .u32 0, .int .u32 0, .int .u32 0, .int .u32 0, .string { data := #[] }, .int .u64 0]) (by rfl) (by rfl) (by rfl) (by rfl) (by rfl) (M.t 0 rfl) (by simp [flen]) info29 (by simp [fone, Value.oneCell']) (fun w10 P R T => ?_)
 replace M := M.put (segs' := [(0, [.int .u32 0, .int .u32 0, .int .u32 0, .int .u32 0, .int .u32 0, .int .u32 0, .int .u32 0, .int .u32 0]), (8, [.string { data := #[] }]), (9, [.int .u64 0])]) 0 rfl P T (SegsOf.at R ⟨rfl, rfl, rfl, trivial⟩)
 simp only [Z0] at M
 refine Z9 (Z10 ?_)
 refine hK5 _ _ ?_
 refine Z4 (fun K11 hK11 => ?_)
 refine Z4 (fun K12 hK12 => ?_)
 refine Z8 ?_
 refine wpL_callE (f := 27) (args := #[]) (R := MemRow w10 8 ([.int .u32 ((H0.a : Nat) : Int), .int .u32 ((H0.b : Nat) : Int), .int .u32 ((H0.c : Nat) : Int), .int .u32 ((H0.d : Nat) : Int), .int .u32 ((H0.e : Nat) : Int), .int .u32 ((H0.f : Nat) : Int), .int .u32 ((H0.g : Nat) : Int), .int .u32 ((H0.h : Nat) : Int)])) (by rfl) (by rfl) rfl Tryd.func27 (by kernel_rfl) (by kernel_rfl) (first_c) (fun v9 w15 hv9 Sw15 => ?_)
 obtain ⟨g14, g14c, rfl, Cg14, M9⟩ := hv9
 replace M := M.call1 M9
 simp only [Z7,Z0]
 refine Z11 1 (by rfl) (fun Lk hLk => ?_)
 simp only [Z1,Z2]
 refine wpV_lenA (n := 8) (by rfl) rfl rfl rfl Tryd.underlying32 ?_
 simp only [Z7,Z0]
 refine Z14 (hLk _ (fun w16 Sw16 => ?_))
 clear hLk Lk
 simp only [Z1,Z2]
 replace M := M.sees Sw16
 refine Z12 (v := .int .i64 0) (by rfl) (by rfl) (by rfl) ?_
 simp only [Z7,Z0]
 refine Z9 (Z10 ?_)
 refine hK12 _ _ ?_
 refine wp_block ?_
 refine wp_loop_rounds 9 ?_
 rw [rounds_succ]
 refine Z4 (fun K17 hK17 => ?_)
 refine Z8 ?_
 refine Z11 1 (by rfl) (fun Lk hLk => ?_)
 simp only [Z1,Z2]
 refine Z15 (v := .bool true) (by rfl) rfl rfl rfl (fun W => run_lss _ _ _ _ W) ?_
 simp only [Z7,Z0]
 refine Z14 (hLk _ (fun w19 Sw19 => ?_))
 clear hLk Lk
 simp only [Z1,Z2]
 replace M := M.sees Sw19
 refine Z9 (Z10 ?_)
 refine hK17 _ _ ?_
 refine Z4 (fun K20 hK20 => ?_)
 refine Z5 rfl ?_
 refine wp_skip ?_
 refine hK20 _ _ ?_
 refine Z4 (fun K21 hK21 => ?_)
 refine wp_block ?_
 refine Z4 (fun K22 hK22 => ?_)
 refine Z8 ?_
 refine Z12 (v := .int .i64 0) (by rfl) (by rfl) (by rfl) ?_
 simp only [Z7,Z0]
 refine Z11 2 (by rfl) (fun Lk hLk => ?_)
 simp only [Z1,Z2]
 refine wpV_idxs (n := 0) (by rfl) rfl rfl rfl Tryd.underlying32 info25 (by omega) ?_
 simp only [Nat.zero_add]
 simp only [Z7,Z0]
 refine wpV_load1 (v := .int .u32 ((H0.a : Nat) : Int)) (by rfl) rfl rfl (zadd ((M.r 0 0 rfl rfl) _ _ rfl)) (M.lt 0 rfl) Tryd.underlying25 rfl ?_
 simp only [Z7,Z0]
 refine Z14 (hLk _ (fun w24 Sw24 => ?_))
 clear hLk Lk
 simp only [Z1,Z2]
 replace M := M.sees Sw24
 refine Z13 (v := .int .i64 0) (by rfl) (by rfl) (by rfl) ?_
 simp only [Z7,Z0]
 refine Z13 (v := .int .u32 ((H0.a : Nat) : Int)) (by rfl) (by rfl) (by rfl) ?_
 simp only [Z7,Z0]
 refine Z9 (Z10 ?_)
 refine hK22 _ _ ?_
 refine Z8 ?_
 refine Z12 (v := .int .i64 0) (by rfl) (by rfl) (by rfl) ?_
 simp only [Z7,Z0]
 refine Z12 (v := .int .u32 ((H0.a : Nat) : Int)) (by rfl) (by rfl) (by rfl) ?_
 simp only [Z7,Z0]
 refine Z11 2 (by rfl) (fun Lk hLk => ?_)
 simp only [Z1,Z2]
 refine Z19 (v := .pointer (some ⟨g8, 0, none⟩)) (by rfl) (by rfl) (fun W hW => ?_) ?_
 ·
  (go_simp; exact rfl)
 simp only [Z7,Z0]
 refine Z19 (v := .pointer (some ⟨g8, 0, none⟩)) (by rfl) (by rfl) (fun W hW => ?_) ?_
 ·
  (go_simp; exact rfl)
 simp only [Z7,Z0]
 refine Z14 (hLk _ (fun w26 Sw26 => ?_))
 clear hLk Lk
 simp only [Z1,Z2]
 replace M := M.sees Sw26
 refine Z18 (g := g8) (off := 0) (n := 10) (v := .int .u32 ((H0.a : Nat) : Int)) (by rfl) (by rfl) (by rfl) (by rfl) (by rfl) (M.t 1 rfl) (by decide) info25 rfl (fun w27 P R T => ?_)
 replace M := M.putI (i := 0) 1 0 rfl P R T rfl rfl (by simp) (by simp [SepS, flen])
 simp only [Z0] at M
 refine Z9 (Z10 ?_)
 refine hK21 _ _ ?_
 refine Z8 ?_
 refine Z11 1 (by rfl) (fun Lk hLk => ?_)
 simp only [Z1,Z2]
 refine Z15 (v := .int .i64 1) (by rfl) rfl rfl rfl (fun W => run_add (by decide) W) ?_
 simp only [Z7,Z0]
 refine Z14 (hLk _ (fun w29 Sw29 => ?_))
 clear hLk Lk
 simp only [Z1,Z2]
 replace M := M.sees Sw29
 refine Z12 (v := .int .i64 1) (by rfl) (by rfl) (by rfl) ?_
 simp only [Z7,Z0]
 refine Z9 (Z10 ?_)
 refine Z17 (Q := fun _ _ _ => True) ?_
 rw [rounds_succ]
 refine Z4 (fun K30 hK30 => ?_)
 refine Z8 ?_
 refine Z11 1 (by rfl) (fun Lk hLk => ?_)
 simp only [Z1,Z2]
 refine Z15 (v := .bool true) (by rfl) rfl rfl rfl (fun W => run_lss _ _ _ _ W) ?_
 simp only [Z7,Z0]
 refine Z14 (hLk _ (fun w32 Sw32 => ?_))
 clear hLk Lk
 simp only [Z1,Z2]
 replace M := M.sees Sw32
 refine Z9 (Z10 ?_)
 refine hK30 _ _ ?_
 refine Z4 (fun K33 hK33 => ?_)
 refine Z5 rfl ?_
 refine wp_skip ?_
 refine hK33 _ _ ?_
 refine Z4 (fun K34 hK34 => ?_)
 refine wp_block ?_
 refine Z4 (fun K35 hK35 => ?_)
 refine Z8 ?_
 refine Z12 (v := .int .i64 1) (by rfl) (by rfl) (by rfl) ?_
 simp only [Z7,Z0]
 refine Z11 2 (by rfl) (fun Lk hLk => ?_)
 simp only [Z1,Z2]
 refine wpV_idxs (n := 1) (by rfl) rfl rfl rfl Tryd.underlying32 info25 (by omega) ?_
 simp only [Nat.zero_add]
 simp only [Z7,Z0]
 refine wpV_load1 (v := .int .u32 ((H0.b : Nat) : Int)) (by rfl) rfl rfl (zadd ((M.r 0 0 rfl rfl) _ _ rfl)) (M.lt 0 rfl) Tryd.underlying25 rfl ?_
 simp only [Z7,Z0]
 refine Z14 (hLk _ (fun w37 Sw37 => ?_))
 clear hLk Lk
 simp only [Z1,Z2]
 replace M := M.sees Sw37
 refine Z13 (v := .int .i64 1) (by rfl) (by rfl) (by rfl) ?_
 simp only [Z7,Z0]
 refine Z13 (v := .int .u32 ((H0.b : Nat) : Int)) (by rfl) (by rfl) (by rfl) ?_
 simp only [Z7,Z0]
 refine Z9 (Z10 ?_)
 refine hK35 _ _ ?_
 refine Z8 ?_
 refine Z12 (v := .int .i64 1) (by rfl) (by rfl) (by rfl) ?_
 simp only [Z7,Z0]
 refine Z12 (v := .int .u32 ((H0.b : Nat) : Int)) (by rfl) (by rfl) (by rfl) ?_
 simp only [Z7,Z0]
 refine Z11 2 (by rfl) (fun Lk hLk => ?_)
 simp only [Z1,Z2]
 refine Z19 (v := .pointer (some ⟨g8, 0, none⟩)) (by rfl) (by rfl) (fun W hW => ?_) ?_
 ·
  (go_simp; exact rfl)
 simp only [Z7,Z0]
 refine Z19 (v := .pointer (some ⟨g8, 1, none⟩)) (by rfl) (by rfl) (fun W hW => ?_) ?_
 ·
  (go_simp; exact rfl)
 simp only [Z7,Z0]
 refine Z14 (hLk _ (fun w39 Sw39 => ?_))
 clear hLk Lk
 simp only [Z1,Z2]
 replace M := M.sees Sw39
 refine Z18 (g := g8) (off := 1) (n := 10) (v := .int .u32 ((H0.b : Nat) : Int)) (by rfl) (by rfl) (by rfl) (by rfl) (by rfl) (M.t 1 rfl) (by decide) info25 rfl (fun w40 P R T => ?_)
 replace M := M.putI (i := 1) 1 0 rfl P R T rfl rfl (by simp) (by simp [SepS, flen])
 simp only [Z0] at M
 refine Z9 (Z10 ?_)
 refine hK34 _ _ ?_
 refine Z8 ?_
 refine Z11 1 (by rfl) (fun Lk hLk => ?_)
 simp only [Z1,Z2]
 refine Z15 (v := .int .i64 2) (by rfl) rfl rfl rfl (fun W => run_add (by decide) W) ?_
 simp only [Z7,Z0]
 refine Z14 (hLk _ (fun w42 Sw42 => ?_))
 clear hLk Lk
 simp only [Z1,Z2]
 replace M := M.sees Sw42
 refine Z12 (v := .int .i64 2) (by rfl) (by rfl) (by rfl) ?_
 simp only [Z7,Z0]
 refine Z9 (Z10 ?_)
 refine Z17 (Q := fun _ _ _ => True) ?_
 rw [rounds_succ]
 refine Z4 (fun K43 hK43 => ?_)
 refine Z8 ?_
 refine Z11 1 (by rfl) (fun Lk hLk => ?_)
 simp only [Z1,Z2]
 refine Z15 (v := .bool true) (by rfl) rfl rfl rfl (fun W => run_lss _ _ _ _ W) ?_
 simp only [Z7,Z0]
 refine Z14 (hLk _ (fun w45 Sw45 => ?_))
 clear hLk Lk
 simp only [Z1,Z2]
 replace M := M.sees Sw45
 refine Z9 (Z10 ?_)
 refine hK43 _ _ ?_
 refine Z4 (fun K46 hK46 => ?_)
 refine Z5 rfl ?_
 refine wp_skip ?_
 refine hK46 _ _ ?_
 refine Z4 (fun K47 hK47 => ?_)
 refine wp_block ?_
 refine Z4 (fun K48 hK48 => ?_)
 refine Z8 ?_
 refine Z12 (v := .int .i64 2) (by rfl) (by rfl) (by rfl) ?_
 simp only [Z7,Z0]
 refine Z11 2 (by rfl) (fun Lk hLk => ?_)
 simp only [Z1,Z2]
 refine wpV_idxs (n := 2) (by rfl) rfl rfl rfl Tryd.underlying32 info25 (by omega) ?_
 simp only [Nat.zero_add]
 simp only [Z7,Z0]
 refine wpV_load1 (v := .int .u32 ((H0.c : Nat) : Int)) (by rfl) rfl rfl (zadd ((M.r 0 0 rfl rfl) _ _ rfl)) (M.lt 0 rfl) Tryd.underlying25 rfl ?_
 simp only [Z7,Z0]
 refine Z14 (hLk _ (fun w50 Sw50 => ?_))
 clear hLk Lk
 simp only [Z1,Z2]
 replace M := M.sees Sw50
 refine Z13 (v := .int .i64 2) (by rfl) (by rfl) (by rfl) ?_
 simp only [Z7,Z0]
 refine Z13 (v := .int .u32 ((H0.c : Nat) : Int)) (by rfl) (by rfl) (by rfl) ?_
 simp only [Z7,Z0]
 refine Z9 (Z10 ?_)
 refine hK48 _ _ ?_
 refine Z8 ?_
 refine Z12 (v := .int .i64 2) (by rfl) (by rfl) (by rfl) ?_
 simp only [Z7,Z0]
 refine Z12 (v := .int .u32 ((H0.c : Nat) : Int)) (by rfl) (by rfl) (by rfl) ?_
 simp only [Z7,Z0]
 refine Z11 2 (by rfl) (fun Lk hLk => ?_)
 simp only [Z1,Z2]
 refine Z19 (v := .pointer (some ⟨g8, 0, none⟩)) (by rfl) (by rfl) (fun W hW => ?_) ?_
 ·
  (go_simp; exact rfl)
 simp only [Z7,Z0]
 refine Z19 (v := .pointer (some ⟨g8, 2, none⟩)) (by rfl) (by rfl) (fun W hW => ?_) ?_
 ·
  (go_simp; exact rfl)
 simp only [Z7,Z0]
 refine Z14 (hLk _ (fun w52 Sw52 => ?_))
 clear hLk Lk
 simp only [Z1,Z2]
 replace M := M.sees Sw52
 refine Z18 (g := g8) (off := 2) (n := 10) (v := .int .u32 ((H0.c : Nat) : Int)) (by rfl) (by rfl) (by rfl) (by rfl) (by rfl) (M.t 1 rfl) (by decide) info25 rfl (fun w53 P R T => ?_)
 replace M := M.putI (i := 2) 1 0 rfl P R T rfl rfl (by simp) (by simp [SepS, flen])
 simp only [Z0] at M
 refine Z9 (Z10 ?_)
 refine hK47 _ _ ?_
 refine Z8 ?_
 refine Z11 1 (by rfl) (fun Lk hLk => ?_)
 simp only [Z1,Z2]
 refine Z15 (v := .int .i64 3) (by rfl) rfl rfl rfl (fun W => run_add (by decide) W) ?_
 simp only [Z7,Z0]
 refine Z14 (hLk _ (fun w55 Sw55 => ?_))
 clear hLk Lk
 simp only [Z1,Z2]
 replace M := M.sees Sw55
 refine Z12 (v := .int .i64 3) (by rfl) (by rfl) (by rfl) ?_
 simp only [Z7,Z0]
 refine Z9 (Z10 ?_)
 refine Z17 (Q := fun _ _ _ => True) ?_
 rw [rounds_succ]
 refine Z4 (fun K56 hK56 => ?_)
 refine Z8 ?_
 refine Z11 1 (by rfl) (fun Lk hLk => ?_)
 simp only [Z1,Z2]
 refine Z15 (v := .bool true) (by rfl) rfl rfl rfl (fun W => run_lss _ _ _ _ W) ?_
 simp only [Z7,Z0]
 refine Z14 (hLk _ (fun w58 Sw58 => ?_))
 clear hLk Lk
 simp only [Z1,Z2]
 replace M := M.sees Sw58
 refine Z9 (Z10 ?_)
 refine hK56 _ _ ?_
 refine Z4 (fun K59 hK59 => ?_)
 refine Z5 rfl ?_
 refine wp_skip ?_
 refine hK59 _ _ ?_
 refine Z4 (fun K60 hK60 => ?_)
 refine wp_block ?_
 refine Z4 (fun K61 hK61 => ?_)
 refine Z8 ?_
 refine Z12 (v := .int .i64 3) (by rfl) (by rfl) (by rfl) ?_
 simp only [Z7,Z0]
 refine Z11 2 (by rfl) (fun Lk hLk => ?_)
 simp only [Z1,Z2]
 refine wpV_idxs (n := 3) (by rfl) rfl rfl rfl Tryd.underlying32 info25 (by omega) ?_
 simp only [Nat.zero_add]
 simp only [Z7,Z0]
 refine wpV_load1 (v := .int .u32 ((H0.d : Nat) : Int)) (by rfl) rfl rfl (zadd ((M.r 0 0 rfl rfl) _ _ rfl)) (M.lt 0 rfl) Tryd.underlying25 rfl ?_
 simp only [Z7,Z0]
 refine Z14 (hLk _ (fun w63 Sw63 => ?_))
 clear hLk Lk
 simp only [Z1,Z2]
 replace M := M.sees Sw63
 refine Z13 (v := .int .i64 3) (by rfl) (by rfl) (by rfl) ?_
 simp only [Z7,Z0]
 refine Z13 (v := .int .u32 ((H0.d : Nat) : Int)) (by rfl) (by rfl) (by rfl) ?_
 simp only [Z7,Z0]
 refine Z9 (Z10 ?_)
 refine hK61 _ _ ?_
 refine Z8 ?_
 refine Z12 (v := .int .i64 3) (by rfl) (by rfl) (by rfl) ?_
 simp only [Z7,Z0]
 refine Z12 (v := .int .u32 ((H0.d : Nat) : Int)) (by rfl) (by rfl) (by rfl) ?_
 simp only [Z7,Z0]
 refine Z11 2 (by rfl) (fun Lk hLk => ?_)
 simp only [Z1,Z2]
 refine Z19 (v := .pointer (some ⟨g8, 0, none⟩)) (by rfl) (by rfl) (fun W hW => ?_) ?_
 ·
  (go_simp; exact rfl)
 simp only [Z7,Z0]
 refine Z19 (v := .pointer (some ⟨g8, 3, none⟩)) (by rfl) (by rfl) (fun W hW => ?_) ?_
 ·
  (go_simp; exact rfl)
 simp only [Z7,Z0]
 refine Z14 (hLk _ (fun w65 Sw65 => ?_))
 clear hLk Lk
 simp only [Z1,Z2]
 replace M := M.sees Sw65
 refine Z18 (g := g8) (off := 3) (n := 10) (v := .int .u32 ((H0.d : Nat) : Int)) (by rfl) (by rfl) (by rfl) (by rfl) (by rfl) (M.t 1 rfl) (by decide) info25 rfl (fun w66 P R T => ?_)
 replace M := M.putI (i := 3) 1 0 rfl P R T rfl rfl (by simp) (by simp [SepS, flen])
 simp only [Z0] at M
 refine Z9 (Z10 ?_)
 refine hK60 _ _ ?_
 refine Z8 ?_
 refine Z11 1 (by rfl) (fun Lk hLk => ?_)
 simp only [Z1,Z2]
 refine Z15 (v := .int .i64 4) (by rfl) rfl rfl rfl (fun W => run_add (by decide) W) ?_
 simp only [Z7,Z0]
 refine Z14 (hLk _ (fun w68 Sw68 => ?_))
 clear hLk Lk
 simp only [Z1,Z2]
 replace M := M.sees Sw68
 refine Z12 (v := .int .i64 4) (by rfl) (by rfl) (by rfl) ?_
 simp only [Z7,Z0]
 refine Z9 (Z10 ?_)
 refine Z17 (Q := fun _ _ _ => True) ?_
 rw [rounds_succ]
 refine Z4 (fun K69 hK69 => ?_)
 refine Z8 ?_
 refine Z11 1 (by rfl) (fun Lk hLk => ?_)
 simp only [Z1,Z2]
 refine Z15 (v := .bool true) (by rfl) rfl rfl rfl (fun W => run_lss _ _ _ _ W) ?_
 simp only [Z7,Z0]
 refine Z14 (hLk _ (fun w71 Sw71 => ?_))
 clear hLk Lk
 simp only [Z1,Z2]
 replace M := M.sees Sw71
 refine Z9 (Z10 ?_)
 refine hK69 _ _ ?_
 refine Z4 (fun K72 hK72 => ?_)
 refine Z5 rfl ?_
 refine wp_skip ?_
 refine hK72 _ _ ?_
 refine Z4 (fun K73 hK73 => ?_)
 refine wp_block ?_
 refine Z4 (fun K74 hK74 => ?_)
 refine Z8 ?_
 refine Z12 (v := .int .i64 4) (by rfl) (by rfl) (by rfl) ?_
 simp only [Z7,Z0]
 refine Z11 2 (by rfl) (fun Lk hLk => ?_)
 simp only [Z1,Z2]
 refine wpV_idxs (n := 4) (by rfl) rfl rfl rfl Tryd.underlying32 info25 (by omega) ?_
 simp only [Nat.zero_add]
 simp only [Z7,Z0]
 refine wpV_load1 (v := .int .u32 ((H0.e : Nat) : Int)) (by rfl) rfl rfl (zadd ((M.r 0 0 rfl rfl) _ _ rfl)) (M.lt 0 rfl) Tryd.underlying25 rfl ?_
 simp only [Z7,Z0]
 refine Z14 (hLk _ (fun w76 Sw76 => ?_))
 clear hLk Lk
 simp only [Z1,Z2]
 replace M := M.sees Sw76
 refine Z13 (v := .int .i64 4) (by rfl) (by rfl) (by rfl) ?_
 simp only [Z7,Z0]
 refine Z13 (v := .int .u32 ((H0.e : Nat) : Int)) (by rfl) (by rfl) (by rfl) ?_
 simp only [Z7,Z0]
 refine Z9 (Z10 ?_)
 refine hK74 _ _ ?_
 refine Z8 ?_
 refine Z12 (v := .int .i64 4) (by rfl) (by rfl) (by rfl) ?_
 simp only [Z7,Z0]
 refine Z12 (v := .int .u32 ((H0.e : Nat) : Int)) (by rfl) (by rfl) (by rfl) ?_
 simp only [Z7,Z0]
 refine Z11 2 (by rfl) (fun Lk hLk => ?_)
 simp only [Z1,Z2]
 refine Z19 (v := .pointer (some ⟨g8, 0, none⟩)) (by rfl) (by rfl) (fun W hW => ?_) ?_
 ·
  (go_simp; exact rfl)
 simp only [Z7,Z0]
 refine Z19 (v := .pointer (some ⟨g8, 4, none⟩)) (by rfl) (by rfl) (fun W hW => ?_) ?_
 ·
  (go_simp; exact rfl)
 simp only [Z7,Z0]
 refine Z14 (hLk _ (fun w78 Sw78 => ?_))
 clear hLk Lk
 simp only [Z1,Z2]
 replace M := M.sees Sw78
 refine Z18 (g := g8) (off := 4) (n := 10) (v := .int .u32 ((H0.e : Nat) : Int)) (by rfl) (by rfl) (by rfl) (by rfl) (by rfl) (M.t 1 rfl) (by decide) info25 rfl (fun w79 P R T => ?_)
 replace M := M.putI (i := 4) 1 0 rfl P R T rfl rfl (by simp) (by simp [SepS, flen])
 simp only [Z0] at M
 refine Z9 (Z10 ?_)
 refine hK73 _ _ ?_
 refine Z8 ?_
 refine Z11 1 (by rfl) (fun Lk hLk => ?_)
 simp only [Z1,Z2]
 refine Z15 (v := .int .i64 5) (by rfl) rfl rfl rfl (fun W => run_add (by decide) W) ?_
 simp only [Z7,Z0]
 refine Z14 (hLk _ (fun w81 Sw81 => ?_))
 clear hLk Lk
 simp only [Z1,Z2]
 replace M := M.sees Sw81
 refine Z12 (v := .int .i64 5) (by rfl) (by rfl) (by rfl) ?_
 simp only [Z7,Z0]
 refine Z9 (Z10 ?_)
 refine Z17 (Q := fun _ _ _ => True) ?_
 rw [rounds_succ]
 refine Z4 (fun K82 hK82 => ?_)
 refine Z8 ?_
 refine Z11 1 (by rfl) (fun Lk hLk => ?_)
 simp only [Z1,Z2]
 refine Z15 (v := .bool true) (by rfl) rfl rfl rfl (fun W => run_lss _ _ _ _ W) ?_
 simp only [Z7,Z0]
 refine Z14 (hLk _ (fun w84 Sw84 => ?_))
 clear hLk Lk
 simp only [Z1,Z2]
 replace M := M.sees Sw84
 refine Z9 (Z10 ?_)
 refine hK82 _ _ ?_
 refine Z4 (fun K85 hK85 => ?_)
 refine Z5 rfl ?_
 refine wp_skip ?_
 refine hK85 _ _ ?_
 refine Z4 (fun K86 hK86 => ?_)
 refine wp_block ?_
 refine Z4 (fun K87 hK87 => ?_)
 refine Z8 ?_
 refine Z12 (v := .int .i64 5) (by rfl) (by rfl) (by rfl) ?_
 simp only [Z7,Z0]
 refine Z11 2 (by rfl) (fun Lk hLk => ?_)
 simp only [Z1,Z2]
 refine wpV_idxs (n := 5) (by rfl) rfl rfl rfl Tryd.underlying32 info25 (by omega) ?_
 simp only [Nat.zero_add]
 simp only [Z7,Z0]
 refine wpV_load1 (v := .int .u32 ((H0.f : Nat) : Int)) (by rfl) rfl rfl (zadd ((M.r 0 0 rfl rfl) _ _ rfl)) (M.lt 0 rfl) Tryd.underlying25 rfl ?_
 simp only [Z7,Z0]
 refine Z14 (hLk _ (fun w89 Sw89 => ?_))
 clear hLk Lk
 simp only [Z1,Z2]
 replace M := M.sees Sw89
 refine Z13 (v := .int .i64 5) (by rfl) (by rfl) (by rfl) ?_
 simp only [Z7,Z0]
 refine Z13 (v := .int .u32 ((H0.f : Nat) : Int)) (by rfl) (by rfl) (by rfl) ?_
 simp only [Z7,Z0]
 refine Z9 (Z10 ?_)
 refine hK87 _ _ ?_
 refine Z8 ?_
 refine Z12 (v := .int .i64 5) (by rfl) (by rfl) (by rfl) ?_
 simp only [Z7,Z0]
 refine Z12 (v := .int .u32 ((H0.f : Nat) : Int)) (by rfl) (by rfl) (by rfl) ?_
 simp only [Z7,Z0]
 refine Z11 2 (by rfl) (fun Lk hLk => ?_)
 simp only [Z1,Z2]
 refine Z19 (v := .pointer (some ⟨g8, 0, none⟩)) (by rfl) (by rfl) (fun W hW => ?_) ?_
 ·
  (go_simp; exact rfl)
 simp only [Z7,Z0]
 refine Z19 (v := .pointer (some ⟨g8, 5, none⟩)) (by rfl) (by rfl) (fun W hW => ?_) ?_
 ·
  (go_simp; exact rfl)
 simp only [Z7,Z0]
 refine Z14 (hLk _ (fun w91 Sw91 => ?_))
 clear hLk Lk
 simp only [Z1,Z2]
 replace M := M.sees Sw91
 refine Z18 (g := g8) (off := 5) (n := 10) (v := .int .u32 ((H0.f : Nat) : Int)) (by rfl) (by rfl) (by rfl) (by rfl) (by rfl) (M.t 1 rfl) (by decide) info25 rfl (fun w92 P R T => ?_)
 replace M := M.putI (i := 5) 1 0 rfl P R T rfl rfl (by simp) (by simp [SepS, flen])
 simp only [Z0] at M
 refine Z9 (Z10 ?_)
 refine hK86 _ _ ?_
 refine Z8 ?_
 refine Z11 1 (by rfl) (fun Lk hLk => ?_)
 simp only [Z1,Z2]
 refine Z15 (v := .int .i64 6) (by rfl) rfl rfl rfl (fun W => run_add (by decide) W) ?_
 simp only [Z7,Z0]
 refine Z14 (hLk _ (fun w94 Sw94 => ?_))
 clear hLk Lk
 simp only [Z1,Z2]
 replace M := M.sees Sw94
 refine Z12 (v := .int .i64 6) (by rfl) (by rfl) (by rfl) ?_
 simp only [Z7,Z0]
 refine Z9 (Z10 ?_)
 refine Z17 (Q := fun _ _ _ => True) ?_
 rw [rounds_succ]
 refine Z4 (fun K95 hK95 => ?_)
 refine Z8 ?_
 refine Z11 1 (by rfl) (fun Lk hLk => ?_)
 simp only [Z1,Z2]
 refine Z15 (v := .bool true) (by rfl) rfl rfl rfl (fun W => run_lss _ _ _ _ W) ?_
 simp only [Z7,Z0]
 refine Z14 (hLk _ (fun w97 Sw97 => ?_))
 clear hLk Lk
 simp only [Z1,Z2]
 replace M := M.sees Sw97
 refine Z9 (Z10 ?_)
 refine hK95 _ _ ?_
 refine Z4 (fun K98 hK98 => ?_)
 refine Z5 rfl ?_
 refine wp_skip ?_
 refine hK98 _ _ ?_
 refine Z4 (fun K99 hK99 => ?_)
 refine wp_block ?_
 refine Z4 (fun K100 hK100 => ?_)
 refine Z8 ?_
 refine Z12 (v := .int .i64 6) (by rfl) (by rfl) (by rfl) ?_
 simp only [Z7,Z0]
 refine Z11 2 (by rfl) (fun Lk hLk => ?_)
 simp only [Z1,Z2]
 refine wpV_idxs (n := 6) (by rfl) rfl rfl rfl Tryd.underlying32 info25 (by omega) ?_
 simp only [Nat.zero_add]
 simp only [Z7,Z0]
 refine wpV_load1 (v := .int .u32 ((H0.g : Nat) : Int)) (by rfl) rfl rfl (zadd ((M.r 0 0 rfl rfl) _ _ rfl)) (M.lt 0 rfl) Tryd.underlying25 rfl ?_
 simp only [Z7,Z0]
 refine Z14 (hLk _ (fun w102 Sw102 => ?_))
 clear hLk Lk
 simp only [Z1,Z2]
 replace M := M.sees Sw102
 refine Z13 (v := .int .i64 6) (by rfl) (by rfl) (by rfl) ?_
 simp only [Z7,Z0]
 refine Z13 (v := .int .u32 ((H0.g : Nat) : Int)) (by rfl) (by rfl) (by rfl) ?_
 simp only [Z7,Z0]
 refine Z9 (Z10 ?_)
 refine hK100 _ _ ?_
 refine Z8 ?_
 refine Z12 (v := .int .i64 6) (by rfl) (by rfl) (by rfl) ?_
 simp only [Z7,Z0]
 refine Z12 (v := .int .u32 ((H0.g : Nat) : Int)) (by rfl) (by rfl) (by rfl) ?_
 simp only [Z7,Z0]
 refine Z11 2 (by rfl) (fun Lk hLk => ?_)
 simp only [Z1,Z2]
 refine Z19 (v := .pointer (some ⟨g8, 0, none⟩)) (by rfl) (by rfl) (fun W hW => ?_) ?_
 ·
  (go_simp; exact rfl)
 simp only [Z7,Z0]
 refine Z19 (v := .pointer (some ⟨g8, 6, none⟩)) (by rfl) (by rfl) (fun W hW => ?_) ?_
 ·
  (go_simp; exact rfl)
 simp only [Z7,Z0]
 refine Z14 (hLk _ (fun w104 Sw104 => ?_))
 clear hLk Lk
 simp only [Z1,Z2]
 replace M := M.sees Sw104
 refine Z18 (g := g8) (off := 6) (n := 10) (v := .int .u32 ((H0.g : Nat) : Int)) (by rfl) (by rfl) (by rfl) (by rfl) (by rfl) (M.t 1 rfl) (by decide) info25 rfl (fun w105 P R T => ?_)
 replace M := M.putI (i := 6) 1 0 rfl P R T rfl rfl (by simp) (by simp [SepS, flen])
 simp only [Z0] at M
 refine Z9 (Z10 ?_)
 refine hK99 _ _ ?_
 refine Z8 ?_
 refine Z11 1 (by rfl) (fun Lk hLk => ?_)
 simp only [Z1,Z2]
 refine Z15 (v := .int .i64 7) (by rfl) rfl rfl rfl (fun W => run_add (by decide) W) ?_
 simp only [Z7,Z0]
 refine Z14 (hLk _ (fun w107 Sw107 => ?_))
 clear hLk Lk
 simp only [Z1,Z2]
 replace M := M.sees Sw107
 refine Z12 (v := .int .i64 7) (by rfl) (by rfl) (by rfl) ?_
 simp only [Z7,Z0]
 refine Z9 (Z10 ?_)
 refine Z17 (Q := fun _ _ _ => True) ?_
 rw [rounds_succ]
 refine Z4 (fun K108 hK108 => ?_)
 refine Z8 ?_
 refine Z11 1 (by rfl) (fun Lk hLk => ?_)
 simp only [Z1,Z2]
 refine Z15 (v := .bool true) (by rfl) rfl rfl rfl (fun W => run_lss _ _ _ _ W) ?_
 simp only [Z7,Z0]
 refine Z14 (hLk _ (fun w110 Sw110 => ?_))
 clear hLk Lk
 simp only [Z1,Z2]
 replace M := M.sees Sw110
 refine Z9 (Z10 ?_)
 refine hK108 _ _ ?_
 refine Z4 (fun K111 hK111 => ?_)
 refine Z5 rfl ?_
 refine wp_skip ?_
 refine hK111 _ _ ?_
 refine Z4 (fun K112 hK112 => ?_)
 refine wp_block ?_
 refine Z4 (fun K113 hK113 => ?_)
 refine Z8 ?_
 refine Z12 (v := .int .i64 7) (by rfl) (by rfl) (by rfl) ?_
 simp only [Z7,Z0]
 refine Z11 2 (by rfl) (fun Lk hLk => ?_)
 simp only [Z1,Z2]
 refine wpV_idxs (n := 7) (by rfl) rfl rfl rfl Tryd.underlying32 info25 (by omega) ?_
 simp only [Nat.zero_add]
 simp only [Z7,Z0]
 refine wpV_load1 (v := .int .u32 ((H0.h : Nat) : Int)) (by rfl) rfl rfl (zadd ((M.r 0 0 rfl rfl) _ _ rfl)) (M.lt 0 rfl) Tryd.underlying25 rfl ?_
 simp only [Z7,Z0]
 refine Z14 (hLk _ (fun w115 Sw115 => ?_))
 clear hLk Lk
 simp only [Z1,Z2]
 replace M := M.sees Sw115
 refine Z13 (v := .int .i64 7) (by rfl) (by rfl) (by rfl) ?_
 simp only [Z7,Z0]
 refine Z13 (v := .int .u32 ((H0.h : Nat) : Int)) (by rfl) (by rfl) (by rfl) ?_
 simp only [Z7,Z0]
 refine Z9 (Z10 ?_)
 refine hK113 _ _ ?_
 refine Z8 ?_
 refine Z12 (v := .int .i64 7) (by rfl) (by rfl) (by rfl) ?_
 simp only [Z7,Z0]
 refine Z12 (v := .int .u32 ((H0.h : Nat) : Int)) (by rfl) (by rfl) (by rfl) ?_
 simp only [Z7,Z0]
 refine Z11 2 (by rfl) (fun Lk hLk => ?_)
 simp only [Z1,Z2]
 refine Z19 (v := .pointer (some ⟨g8, 0, none⟩)) (by rfl) (by rfl) (fun W hW => ?_) ?_
 ·
  (go_simp; exact rfl)
 simp only [Z7,Z0]
 refine Z19 (v := .pointer (some ⟨g8, 7, none⟩)) (by rfl) (by rfl) (fun W hW => ?_) ?_
 ·
  (go_simp; exact rfl)
 simp only [Z7,Z0]
 refine Z14 (hLk _ (fun w117 Sw117 => ?_))
 clear hLk Lk
 simp only [Z1,Z2]
 replace M := M.sees Sw117
 refine Z18 (g := g8) (off := 7) (n := 10) (v := .int .u32 ((H0.h : Nat) : Int)) (by rfl) (by rfl) (by rfl) (by rfl) (by rfl) (M.t 1 rfl) (by decide) info25 rfl (fun w118 P R T => ?_)
 replace M := M.putI (i := 7) 1 0 rfl P R T rfl rfl (by simp) (by simp [SepS, flen])
 simp only [Z0] at M
 refine Z9 (Z10 ?_)
 refine hK112 _ _ ?_
 refine Z8 ?_
 refine Z11 1 (by rfl) (fun Lk hLk => ?_)
 simp only [Z1,Z2]
 refine Z15 (v := .int .i64 8) (by rfl) rfl rfl rfl (fun W => run_add (by decide) W) ?_
 simp only [Z7,Z0]
 refine Z14 (hLk _ (fun w120 Sw120 => ?_))
 clear hLk Lk
 simp only [Z1,Z2]
 replace M := M.sees Sw120
 refine Z12 (v := .int .i64 8) (by rfl) (by rfl) (by rfl) ?_
 simp only [Z7,Z0]
 refine Z9 (Z10 ?_)
 refine Z17 (Q := fun _ _ _ => True) ?_
 rw [rounds_succ]
 refine Z4 (fun K121 hK121 => ?_)
 refine Z8 ?_
 refine Z11 1 (by rfl) (fun Lk hLk => ?_)
 simp only [Z1,Z2]
 refine Z15 (v := .bool false) (by rfl) rfl rfl rfl (fun W => run_lss _ _ _ _ W) ?_
 simp only [Z7,Z0]
 refine Z14 (hLk _ (fun w123 Sw123 => ?_))
 clear hLk Lk
 simp only [Z1,Z2]
 replace M := M.sees Sw123
 refine Z9 (Z10 ?_)
 refine hK121 _ _ ?_
 refine Z4 (fun K124 hK124 => ?_)
 refine Z6 rfl ?_
 refine wp_exit ?_
 refine hK11 _ _ ?_
 refine Z4 (fun K125 hK125 => ?_)
 refine Z8 ?_
 refine Z11 1 (by rfl) (fun Lk hLk => ?_)
 simp only [Z1,Z2]
 refine wpV_load (cs := [.int .u32 ((H0.a : Nat) : Int), .int .u32 ((H0.b : Nat) : Int), .int .u32 ((H0.c : Nat) : Int), .int .u32 ((H0.d : Nat) : Int), .int .u32 ((H0.e : Nat) : Int), .int .u32 ((H0.f : Nat) : Int), .int .u32 ((H0.g : Nat) : Int), .int .u32 ((H0.h : Nat) : Int)] ++ [.string { data := #[] }] ++ [.int .u64 0]) (by rfl) rfl rfl (range_join (range_join (M.r 1 0 rfl rfl) (M.r 1 1 rfl rfl) (by simp [flen])) (M.r 1 2 rfl rfl) (by simp [flen])) (M.lt 1 rfl) Tryd.underlying29 rfl info29 ?_
 simp only [Z7,Z0]
 refine Z14 (hLk _ (fun w127 Sw127 => ?_))
 clear hLk Lk
 simp only [Z1,Z2]
 replace M := M.sees Sw127
 refine wpL_store (g := g3) (off := 0) (n := 10) (cs := [.int .u32 ((H0.a : Nat) : Int), .int .u32 ((H0.b : Nat) : Int), .int .u32 ((H0.c : Nat) : Int), .int .u32 ((H0.d : Nat) : Int), .int .u32 ((H0.e : Nat) : Int), .int .u32 ((H0.f : Nat) : Int), .int .u32 ((H0.g : Nat) : Int), .int .u32 ((H0.h : Nat) : Int)] ++ [.string { data := #[] }] ++ [.int .u64 0]) (by rfl) (by rfl) (by rfl) (by rfl) (by rfl) (M.t 2 rfl) (by simp [flen]) info29 (by simp [fone, Value.oneCell']) (fun w128 P R T => ?_)
 replace M := M.put (segs' := [(0, [.int .u32 ((H0.a : Nat) : Int), .int .u32 ((H0.b : Nat) : Int), .int .u32 ((H0.c : Nat) : Int), .int .u32 ((H0.d : Nat) : Int), .int .u32 ((H0.e : Nat) : Int), .int .u32 ((H0.f : Nat) : Int), .int .u32 ((H0.g : Nat) : Int), .int .u32 ((H0.h : Nat) : Int)]), (8, [.string { data := #[] }]), (9, [.int .u64 0])]) 2 rfl P T (SegsOf.at R ⟨rfl, rfl, rfl, trivial⟩)
 simp only [Z0] at M
 refine Z9 (Z10 ?_)
 refine hK125 _ _ ?_
 refine wp_ret ?_
 repeat (first | with_reducible refine then_ret ?_ | with_reducible refine inblock_ret ?_)
 refine bodyPost_ret (v := .agg ([.int .u32 ((H0.a : Nat) : Int), .int .u32 ((H0.b : Nat) : Int), .int .u32 ((H0.c : Nat) : Int), .int .u32 ((H0.d : Nat) : Int), .int .u32 ((H0.e : Nat) : Int), .int .u32 ((H0.f : Nat) : Int), .int .u32 ((H0.g : Nat) : Int), .int .u32 ((H0.h : Nat) : Int)] ++ [.string { data := #[] }] ++ [.int .u64 0] : List Value).toArray) (res1 rfl (.cell (by rfl) (run_loadVar_mid _ _ _ _ ([.int .u32 ((H0.a : Nat) : Int), .int .u32 ((H0.b : Nat) : Int), .int .u32 ((H0.c : Nat) : Int), .int .u32 ((H0.d : Nat) : Int), .int .u32 ((H0.e : Nat) : Int), .int .u32 ((H0.f : Nat) : Int), .int .u32 ((H0.g : Nat) : Int), .int .u32 ((H0.h : Nat) : Int)] ++ [.string { data := #[] }] ++ [.int .u64 0]) _ (range_join (range_join (M.r 2 0 rfl rfl) (M.r 2 1 rfl rfl) (by simp [flen])) (M.r 2 2 rfl rfl) (by simp [flen])) Tryd.underlying29 rfl info29))) rfl ?_
 have BE := M.below
 exact ⟨rfl, BE⟩
set_option maxHeartbeats 2000000 in
theorem rwrite_c {n : Nat} {h : S8} {b l : List UInt8} {w : World} (hh : h.Ok) (hb : b.length < 64) (hl : l.length ≤ 9223372036854775744) :
  Calls Tryd.prog 35 #[.agg ([.int .u32 ((h.a : Nat) : Int), .int .u32 ((h.b : Nat) : Int), .int .u32 ((h.c : Nat) : Int), .int .u32 ((h.d : Nat) : Int), .int .u32 ((h.e : Nat) : Int), .int .u32 ((h.f : Nat) : Int), .int .u32 ((h.g : Nat) : Int), .int .u32 ((h.h : Nat) : Int)] ++ [.string (bs b)] ++ [.int .u64 ((n : Nat) : Int)] : List Value).toArray, .string (bs l)] w fun e w' => e = .returned (.agg ([.int .u32 (((takeH h (b ++ l)).a : Nat) : Int), .int .u32 (((takeH h (b ++ l)).b : Nat) : Int), .int .u32 (((takeH h (b ++ l)).c : Nat) : Int), .int .u32 (((takeH h (b ++ l)).d : Nat) : Int), .int .u32 (((takeH h (b ++ l)).e : Nat) : Int), .int .u32 (((takeH h (b ++ l)).f : Nat) : Int), .int .u32 (((takeH h (b ++ l)).g : Nat) : Int), .int .u32 (((takeH h (b ++ l)).h : Nat) : Int)] ++ [.string (bs (takeR (b ++ l)))] ++ [.int .u64 ((((n + l.length) % 18446744073709551616) : Nat) : Int)] : List Value).toArray) ∧ Below w.heap.size w w' := by
 go_enter Tryd.func35, Tryd.ntmps35
 have M := Mem.start w
 refine Z4 (fun K1 hK1 => ?_)
 refine Z8 ?_
 refine wpL_var (t := 29) (cs := [.int .u32 ((h.a : Nat) : Int), .int .u32 ((h.b : Nat) : Int), .int .u32 ((h.c : Nat) : Int), .int .u32 ((h.d : Nat) : Int), .int .u32 ((h.e : Nat) : Int), .int .u32 ((h.f : Nat) : Int), .int .u32 ((h.g : Nat) : Int), .int .u32 ((h.h : Nat) : Int)] ++ [.string (bs b)] ++ [.int .u64 ((n : Nat) : Int)]) (by rfl) (fun W => ?_) (fun g3 w4 Sw4 Hg3 Bg3 => ?_)
 ·
  (first | rfl | go_simp)
 replace M := ((M.sees Sw4).addS (N := 10) (cs := [.int .u32 ((h.a : Nat) : Int), .int .u32 ((h.b : Nat) : Int), .int .u32 ((h.c : Nat) : Int), .int .u32 ((h.d : Nat) : Int), .int .u32 ((h.e : Nat) : Int), .int .u32 ((h.f : Nat) : Int), .int .u32 ((h.g : Nat) : Int), .int .u32 ((h.h : Nat) : Int)] ++ [.string (bs b)] ++ [.int .u64 ((n : Nat) : Int)]) (segs := [(0, [.int .u32 ((h.a : Nat) : Int), .int .u32 ((h.b : Nat) : Int), .int .u32 ((h.c : Nat) : Int), .int .u32 ((h.d : Nat) : Int), .int .u32 ((h.e : Nat) : Int), .int .u32 ((h.f : Nat) : Int), .int .u32 ((h.g : Nat) : Int), .int .u32 ((h.h : Nat) : Int)]), (8, [.string (bs b)]), (9, [.int .u64 ((n : Nat) : Int)])]) (M.ge Hg3) (M.fresh Hg3) Bg3 (by simp [flen]) ⟨rfl, rfl, rfl, trivial⟩)
 clear Bg3
 simp only [Z7,Z0]
 refine wpL_var (t := 29) (cs := [.int .u32 0, .int .u32 0, .int .u32 0, .int .u32 0, .int .u32 0, .int .u32 0, .int .u32 0, .int .u32 0, .string { data := #[] }, .int .u64 0]) (by rfl) (fun W => ?_) (fun g5 w6 Sw6 Hg5 Bg5 => ?_)
 ·
  go_simp
 replace M := ((M.sees Sw6).addS (N := 10) (cs := [.int .u32 0, .int .u32 0, .int .u32 0, .int .u32 0, .int .u32 0, .int .u32 0, .int .u32 0, .int .u32 0, .string { data := #[] }, .int .u64 0]) (segs := [(0, [.int .u32 0, .int .u32 0, .int .u32 0, .int .u32 0, .int .u32 0, .int .u32 0, .int .u32 0, .int .u32 0]), (8, [.string { data := #[] }]), (9, [.int .u64 0])]) (M.ge Hg5) (M.fresh Hg5) Bg5 rfl ⟨rfl, rfl, rfl, trivial⟩)
 clear Bg5
 simp only [Z7,Z0]
 refine Z9 (Z10 ?_)
 refine hK1 _ _ ?_
 refine Z4 (fun K7 hK7 => ?_)
 refine Z8 ?_
 refine wpL_callE (f := 25) (args := #[]) (R := MemRow w6 64 (kcells)) (by rfl) (by rfl) rfl Tryd.func25 (by kernel_rfl) (by kernel_rfl) (keys_c) (fun v9 w10 hv9 Sw10 => ?_)
 obtain ⟨g9, g9c, rfl, Cg9, M9⟩ := hv9
 replace M := M.call1 M9
 simp only [Z7,Z0]
 refine Z13 (v := .slice (some ⟨g9, 0, none⟩) 64 g9c) (by rfl) (by rfl) (by rfl) ?_
 simp only [Z7,Z0]
 refine Z9 (Z10 ?_)
 refine hK7 _ _ ?_
 refine Z4 (fun K11 hK11 => ?_)
 refine Z8 ?_
 refine Z11 4 (by rfl) (fun Lk hLk => ?_)
 simp only [Z1,Z2]
 refine Z19 (v := .pointer (some ⟨g3, 8, none⟩)) (by rfl) (by rfl) (fun W hW => ?_) ?_
 ·
  (go_simp; exact rfl)
 simp only [Z7,Z0]
 refine wpV_load1 (v := .string (bs b)) (by rfl) rfl rfl (range_one (M.r 2 1 rfl rfl)) (M.lt 2 rfl) Tryd.underlying9 rfl ?_
 simp only [Z7,Z0]
 refine Z16 (v := .string (bs l)) (by rfl) rfl rfl ?_
 simp only [Z7,Z0]
 refine wpV_binS (v := .string (bs (b ++ l))) (by rfl) rfl rfl rfl (run_add_bs _ _ _ (by omega)) ?_
 simp only [Z7,Z0]
 refine Z14 (hLk _ (fun w13 Sw13 => ?_))
 clear hLk Lk
 simp only [Z1,Z2]
 replace M := M.sees Sw13
 refine Z13 (v := .string (bs (b ++ l))) (by rfl) (by rfl) (by rfl) ?_
 simp only [Z7,Z0]
 refine Z9 (Z10 ?_)
 refine hK11 _ _ ?_
 refine Z4 (fun K14 hK14 => ?_)
 refine wp_block ?_
 refine wp_loop_ghost (fun n9 a9 W9 => ∃ (r : List UInt8) (s : S8) (u15 : Nat → Value), n9 = r.length ∧ a9 = { tmps := #[.agg ([.int .u32 ((h.a : Nat) : Int), .int .u32 ((h.b : Nat) : Int), .int .u32 ((h.c : Nat) : Int), .int .u32 ((h.d : Nat) : Int), .int .u32 ((h.e : Nat) : Int), .int .u32 ((h.f : Nat) : Int), .int .u32 ((h.g : Nat) : Int), .int .u32 ((h.h : Nat) : Int)] ++ [.string (bs b)] ++ [.int .u64 ((n : Nat) : Int)] : List Value).toArray, .string (bs l), .pointer (some ⟨g3, 0, none⟩), Z3, .pointer (some ⟨g5, 0, none⟩), .slice (some ⟨g9, 0, none⟩) 64 g9c, .string (bs r), .slice (some ⟨g9, 0, none⟩) 64 g9c, .pointer (some ⟨g3, 8, none⟩), .string (bs b), .string (bs l), .string (bs (b ++ l)), u15 12, u15 13, u15 14, u15 15, u15 16, u15 17, u15 18, u15 19, u15 20, u15 21, u15 22, u15 23, Z3, Z3, Z3, Z3, Z3, Z3, Z3, Z3, Z3, Z3], defers := [] } ∧ Mem [] w W9 [⟨g9, g9c, [(0, kcells)]⟩, ⟨g5, 10, [(0, [.int .u32 0, .int .u32 0, .int .u32 0, .int .u32 0, .int .u32 0, .int .u32 0, .int .u32 0, .int .u32 0]), (8, [.string { data := #[] }]), (9, [.int .u64 0])]⟩, ⟨g3, 10, [(0, [.int .u32 ((s.a : Nat) : Int), .int .u32 ((s.b : Nat) : Int), .int .u32 ((s.c : Nat) : Int), .int .u32 ((s.d : Nat) : Int), .int .u32 ((s.e : Nat) : Int), .int .u32 ((s.f : Nat) : Int), .int .u32 ((s.g : Nat) : Int), .int .u32 ((s.h : Nat) : Int)]), (8, [.string (bs b)]), (9, [.int .u64 ((n : Nat) : Int)])]⟩] ∧ (s.Ok) ∧ (takeH s r = takeH h (b ++ l)) ∧ (takeR r = takeR (b ++ l))) ((b ++ l).length) ?_ (fun n9 a9 W9 hI => ?_)
 ·
  exact ⟨(b ++ l), h, (fun q9 => (#[Z3, Z3, Z3, Z3, Z3, Z3, Z3, Z3, Z3, Z3, Z3, Z3, Z3, Z3, Z3, Z3, Z3, Z3, Z3, Z3, Z3, Z3, Z3, Z3] : Array Value).getD q9 Z3), rfl, rfl, M, hh, rfl, rfl⟩
 clear M
 obtain ⟨r, s, u15, rfl, rfl, M, hs, hH, hR⟩ := hI
 obtain ⟨w16, rfl⟩ : ∃ W8, W8 = W9 := ⟨_, rfl⟩
 refine Z4 (fun K17 hK17 => ?_)
 refine Z4 (fun K18 hK18 => ?_)
 refine Z8 ?_
 refine Z12 (v := .string (bs r)) (by rfl) (by rfl) (by rfl) ?_
 simp only [Z7,Z0]
 refine Z11 2 (by rfl) (fun Lk hLk => ?_)
 simp only [Z1,Z2]
 refine wpV_lenS (by rfl) rfl rfl rfl Tryd.underlying9 ?_
 simp only [Z7,Z0]
 refine Z15 (v := .bool (decide (64 ≤ r.length))) (by rfl) rfl rfl rfl (fun W => run_geqN r.length 64 _ _ W) ?_
 simp only [Z7,Z0]
 refine Z14 (hLk _ (fun w20 Sw20 => ?_))
 clear hLk Lk
 simp only [Z1,Z2]
 replace M := M.sees Sw20
 refine Z9 (Z10 ?_)
 refine hK18 _ _ ?_
 cases hc21 : (decide (64 ≤ r.length))
 ·
  have h64 : ¬ 64 ≤ r.length := of_decide_eq_false hc21
  rw [takeH_done h64] at hH
  rw [takeR_done h64] at hR
  subst hH hR
  refine Z6 rfl ?_
  refine wp_exit ?_
  refine hK14 _ _ ?_
  refine Z4 (fun K22 hK22 => ?_)
  refine Z8 ?_
  refine Z12 (v := .string (bs (takeR (b ++ l)))) (by rfl) (by rfl) (by rfl) ?_
  simp only [Z7,Z0]
  refine Z11 1 (by rfl) (fun Lk hLk => ?_)
  simp only [Z1,Z2]
  refine Z19 (v := .pointer (some ⟨g3, 8, none⟩)) (by rfl) (by rfl) (fun W hW => ?_) ?_
  ·
   (go_simp; exact rfl)
  simp only [Z7,Z0]
  refine Z14 (hLk _ (fun w24 Sw24 => ?_))
  clear hLk Lk
  simp only [Z1,Z2]
  replace M := M.sees Sw24
  refine Z18 (g := g3) (off := 8) (n := 10) (v := .string (bs (takeR (b ++ l)))) (by rfl) (by rfl) (by rfl) (by rfl) (by rfl) (M.t 2 rfl) (by decide) info9 rfl (fun w25 P R T => ?_)
  replace M := M.putS (new := [.string (bs (takeR (b ++ l)))]) 2 1 rfl P R T rfl (by simp [SepS, flen])
  simp only [Z0] at M
  refine Z9 (Z10 ?_)
  refine hK22 _ _ ?_
  refine Z4 (fun K26 hK26 => ?_)
  refine Z8 ?_
  refine Z11 7 (by rfl) (fun Lk hLk => ?_)
  simp only [Z1,Z2]
  refine Z19 (v := .pointer (some ⟨g3, 9, none⟩)) (by rfl) (by rfl) (fun W hW => ?_) ?_
  ·
   (go_simp; exact rfl)
  simp only [Z7,Z0]
  refine wpV_load1 (v := .int .u64 ((n : Nat) : Int)) (by rfl) rfl rfl (range_one (M.r 2 2 rfl rfl)) (M.lt 2 rfl) Tryd.underlying27 rfl ?_
  simp only [Z7,Z0]
  refine Z16 (v := .string (bs l)) (by rfl) rfl rfl ?_
  simp only [Z7,Z0]
  refine wpV_lenS (by rfl) rfl rfl rfl Tryd.underlying9 ?_
  simp only [Z7,Z0]
  refine wpV_conv (d := .bool) (e := ((l.length : Nat) : Int)) (by rfl) rfl rfl (run_conv_int Tryd.underlying3 Tryd.underlying27 ((wrap64N _).trans (congrArg _ (Nat.mod_eq_of_lt (by omega))))) ?_
  simp only [Z7,Z0]
  refine Z15 (v := .int .u64 (((n + l.length) % 18446744073709551616 : Nat) : Int)) (by rfl) rfl rfl rfl (fun W => nr_add64 _ n l.length W) ?_
  simp only [Z7,Z0]
  refine Z19 (v := .pointer (some ⟨g3, 9, none⟩)) (by rfl) (by rfl) (fun W hW => ?_) ?_
  ·
   (go_simp; exact rfl)
  simp only [Z7,Z0]
  refine Z14 (hLk _ (fun w28 Sw28 => ?_))
  clear hLk Lk
  simp only [Z1,Z2]
  replace M := M.sees Sw28
  refine Z18 (g := g3) (off := 9) (n := 10) (v := .int .u64 (((n + l.length) % 18446744073709551616 : Nat) : Int)) (by rfl) (by rfl) (by rfl) (by rfl) (by rfl) (M.t 2 rfl) (by decide) info27 rfl (fun w29 P R T => ?_)
  replace M := M.putS (new := [.int .u64 (((n + l.length) % 18446744073709551616 : Nat) : Int)]) 2 2 rfl P R T rfl (by simp [SepS, flen])
  simp only [Z0] at M
  refine Z9 (Z10 ?_)
  refine hK26 _ _ ?_
  refine Z4 (fun K30 hK30 => ?_)
  refine Z8 ?_
  refine Z11 1 (by rfl) (fun Lk hLk => ?_)
  simp only [Z1,Z2]
  refine wpV_load (cs := [.int .u32 (((takeH h (b ++ l)).a : Nat) : Int), .int .u32 (((takeH h (b ++ l)).b : Nat) : Int), .int .u32 (((takeH h (b ++ l)).c : Nat) : Int), .int .u32 (((takeH h (b ++ l)).d : Nat) : Int), .int .u32 (((takeH h (b ++ l)).e : Nat) : Int), .int .u32 (((takeH h (b ++ l)).f : Nat) : Int), .int .u32 (((takeH h (b ++ l)).g : Nat) : Int), .int .u32 (((takeH h (b ++ l)).h : Nat) : Int)] ++ [.string (bs (takeR (b ++ l)))] ++ [.int .u64 (((n + l.length) % 18446744073709551616 : Nat) : Int)]) (by rfl) rfl rfl (range_join (range_join (M.r 2 0 rfl rfl) (M.r 2 1 rfl rfl) (by simp [flen])) (M.r 2 2 rfl rfl) (by simp [flen])) (M.lt 2 rfl) Tryd.underlying29 rfl info29 ?_
  simp only [Z7,Z0]
  refine Z14 (hLk _ (fun w32 Sw32 => ?_))
  clear hLk Lk
  simp only [Z1,Z2]
  replace M := M.sees Sw32
  refine wpL_store (g := g5) (off := 0) (n := 10) (cs := [.int .u32 (((takeH h (b ++ l)).a : Nat) : Int), .int .u32 (((takeH h (b ++ l)).b : Nat) : Int), .int .u32 (((takeH h (b ++ l)).c : Nat) : Int), .int .u32 (((takeH h (b ++ l)).d : Nat) : Int), .int .u32 (((takeH h (b ++ l)).e : Nat) : Int), .int .u32 (((takeH h (b ++ l)).f : Nat) : Int), .int .u32 (((takeH h (b ++ l)).g : Nat) : Int), .int .u32 (((takeH h (b ++ l)).h : Nat) : Int)] ++ [.string (bs (takeR (b ++ l)))] ++ [.int .u64 (((n + l.length) % 18446744073709551616 : Nat) : Int)]) (by rfl) (by rfl) (by rfl) (by rfl) (by rfl) (M.t 1 rfl) (by simp [flen]) info29 (by simp [fone, Value.oneCell']) (fun w33 P R T => ?_)
  replace M := M.put (segs' := [(0, [.int .u32 (((takeH h (b ++ l)).a : Nat) : Int), .int .u32 (((takeH h (b ++ l)).b : Nat) : Int), .int .u32 (((takeH h (b ++ l)).c : Nat) : Int), .int .u32 (((takeH h (b ++ l)).d : Nat) : Int), .int .u32 (((takeH h (b ++ l)).e : Nat) : Int), .int .u32 (((takeH h (b ++ l)).f : Nat) : Int), .int .u32 (((takeH h (b ++ l)).g : Nat) : Int), .int .u32 (((takeH h (b ++ l)).h : Nat) : Int)]), (8, [.string (bs (takeR (b ++ l)))]), (9, [.int .u64 (((n + l.length) % 18446744073709551616 : Nat) : Int)])]) 1 rfl P T (SegsOf.at R ⟨rfl, rfl, rfl, trivial⟩)
  simp only [Z0] at M
  refine Z9 (Z10 ?_)
  refine hK30 _ _ ?_
  refine wp_ret ?_
  repeat (first | with_reducible refine then_ret ?_ | with_reducible refine inblock_ret ?_)
  refine bodyPost_ret (v := .agg ([.int .u32 (((takeH h (b ++ l)).a : Nat) : Int), .int .u32 (((takeH h (b ++ l)).b : Nat) : Int), .int .u32 (((takeH h (b ++ l)).c : Nat) : Int), .int .u32 (((takeH h (b ++ l)).d : Nat) : Int), .int .u32 (((takeH h (b ++ l)).e : Nat) : Int), .int .u32 (((takeH h (b ++ l)).f : Nat) : Int), .int .u32 (((takeH h (b ++ l)).g : Nat) : Int), .int .u32 (((takeH h (b ++ l)).h : Nat) : Int)] ++ [.string (bs (takeR (b ++ l)))] ++ [.int .u64 (((n + l.length) % 18446744073709551616 : Nat) : Int)] : List Value).toArray) (res1 rfl (.cell (by rfl) (run_loadVar_mid _ _ _ _ ([.int .u32 (((takeH h (b ++ l)).a : Nat) : Int), .int .u32 (((takeH h (b ++ l)).b : Nat) : Int), .int .u32 (((takeH h (b ++ l)).c : Nat) : Int), .int .u32 (((takeH h (b ++ l)).d : Nat) : Int), .int .u32 (((takeH h (b ++ l)).e : Nat) : Int), .int .u32 (((takeH h (b ++ l)).f : Nat) : Int), .int .u32 (((takeH h (b ++ l)).g : Nat) : Int), .int .u32 (((takeH h (b ++ l)).h : Nat) : Int)] ++ [.string (bs (takeR (b ++ l)))] ++ [.int .u64 (((n + l.length) % 18446744073709551616 : Nat) : Int)]) _ (range_join (range_join (M.r 1 0 rfl rfl) (M.r 1 1 rfl rfl) (by simp [flen])) (M.r 1 2 rfl rfl) (by simp [flen])) Tryd.underlying29 rfl info29))) rfl ?_
  have BE := M.below
  exact ⟨rfl, BE⟩
 ·
  have h64 : 64 ≤ r.length := of_decide_eq_true hc21
  refine Z5 rfl ?_
  refine wp_skip ?_
  refine hK17 _ _ ?_
  refine wp_block ?_
  refine Z4 (fun K34 hK34 => ?_)
  refine wp_region_grow 7 [] (by kernel_rfl) (by kernel_rfl) (by kernel_rfl) (fun Lk hLk => ?_)
  simp only [Z1,Z2]
  refine Z19 (v := .pointer (some ⟨g3, 0, none⟩)) (by rfl) (by rfl) (fun W hW => ?_) ?_
  ·
   (go_simp; exact rfl)
  simp only [Z7,Z0]
  refine wpV_load (cs := [.int .u32 ((s.a : Nat) : Int), .int .u32 ((s.b : Nat) : Int), .int .u32 ((s.c : Nat) : Int), .int .u32 ((s.d : Nat) : Int), .int .u32 ((s.e : Nat) : Int), .int .u32 ((s.f : Nat) : Int), .int .u32 ((s.g : Nat) : Int), .int .u32 ((s.h : Nat) : Int)]) (by rfl) rfl rfl (M.r 2 0 rfl rfl) (M.lt 2 rfl) Tryd.underlying26 rfl info26 ?_
  simp only [Z7,Z0]
  refine Z16 (v := .string (bs r)) (by rfl) rfl rfl ?_
  simp only [Z7,Z0]
  refine wpV_takeS (l := r) (hi := 64) (by rfl) rfl rfl rfl Tryd.underlying9 h64 ?_
  simp only [Z7,Z0]
  refine Z16 (v := .slice (some ⟨g9, 0, none⟩) 64 g9c) (by rfl) rfl rfl ?_
  simp only [Z7,Z0]
  refine Z20 (v := .agg ([.int .u32 (((mixS s r).a : Nat) : Int), .int .u32 (((mixS s r).b : Nat) : Int), .int .u32 (((mixS s r).c : Nat) : Int), .int .u32 (((mixS s r).d : Nat) : Int), .int .u32 (((mixS s r).e : Nat) : Int), .int .u32 (((mixS s r).f : Nat) : Int), .int .u32 (((mixS s r).g : Nat) : Int), .int .u32 (((mixS s r).h : Nat) : Int)]).toArray) (args := #[.agg ([.int .u32 ((s.a : Nat) : Int), .int .u32 ((s.b : Nat) : Int), .int .u32 ((s.c : Nat) : Int), .int .u32 ((s.d : Nat) : Int), .int .u32 ((s.e : Nat) : Int), .int .u32 ((s.f : Nat) : Int), .int .u32 ((s.g : Nat) : Int), .int .u32 ((s.h : Nat) : Int)]).toArray, .string (bs (r.take 64)), .slice (some ⟨g9, 0, none⟩) 64 g9c]) (by rfl) rfl Tryd.func74 (by kernel_rfl) (by kernel_rfl) rfl (fun W hW => (by have := rmix_c (h := s) (l := r.take 64) (w := W) hs (by rw [List.length_take]; omega) Cg9 ((M.sees hW).lt 0 rfl) ((M.sees hW).r 0 0 rfl rfl); rw [mixS_take] at this; exact this)) ?_
  simp only [Z7,Z0]
  refine Z19 (v := .pointer (some ⟨g3, 0, none⟩)) (by rfl) (by rfl) (fun W hW => ?_) ?_
  ·
   (go_simp; exact rfl)
  simp only [Z7,Z0]
  refine Z14 (hLk.out _ ?_)
  clear hLk Lk
  simp only [Z1,Z2]
  iterate 7 refine wpN_skip (by rfl) ?_
  refine wpN_nil (fun w36 Sw36 hbs => ?_)
  clear hbs
  replace M := M.sees Sw36
  refine wpL_store (g := g3) (off := 0) (n := 10) (cs := [.int .u32 (((mixS s r).a : Nat) : Int), .int .u32 (((mixS s r).b : Nat) : Int), .int .u32 (((mixS s r).c : Nat) : Int), .int .u32 (((mixS s r).d : Nat) : Int), .int .u32 (((mixS s r).e : Nat) : Int), .int .u32 (((mixS s r).f : Nat) : Int), .int .u32 (((mixS s r).g : Nat) : Int), .int .u32 (((mixS s r).h : Nat) : Int)]) (by rfl) (by rfl) (by rfl) (by rfl) (by rfl) (M.t 2 rfl) (by simp [flen]) info26 (by simp [fone, Value.oneCell']) (fun w37 P R T => ?_)
  replace M := M.putS 2 0 rfl P R T rfl (by simp [SepS, flen])
  simp only [Z0] at M
  refine Z9 (Z10 ?_)
  refine hK34 _ _ ?_
  refine Z8 ?_
  refine Z12 (v := .string (bs r)) (by rfl) (by rfl) (by rfl) ?_
  simp only [Z7,Z0]
  refine Z11 1 (by rfl) (fun Lk hLk => ?_)
  simp only [Z1,Z2]
  refine wpV_drop (l := r) (lo := 64) (by rfl) rfl rfl rfl Tryd.underlying9 h64 ?_
  simp only [Z7,Z0]
  refine Z14 (hLk _ (fun w39 Sw39 => ?_))
  clear hLk Lk
  simp only [Z1,Z2]
  replace M := M.sees Sw39
  refine Z13 (v := .string (bs (r.drop 64))) (by rfl) (by rfl) (by rfl) ?_
  simp only [Z7,Z0]
  refine Z9 (Z10 ?_)
  refine Exists.intro _ ⟨?_, (r.drop 64), (mixS s r), (fun q9 => (#[Z3, Z3, Z3, Z3, Z3, Z3, Z3, Z3, Z3, Z3, Z3, Z3, .string (bs r), .int .i64 ((r.length : Nat) : Int), .bool true, .pointer (some ⟨g3, 0, none⟩), .agg ([.int .u32 ((s.a : Nat) : Int), .int .u32 ((s.b : Nat) : Int), .int .u32 ((s.c : Nat) : Int), .int .u32 ((s.d : Nat) : Int), .int .u32 ((s.e : Nat) : Int), .int .u32 ((s.f : Nat) : Int), .int .u32 ((s.g : Nat) : Int), .int .u32 ((s.h : Nat) : Int)]).toArray, .string (bs r), .string (bs (r.take 64)), .slice (some ⟨g9, 0, none⟩) 64 g9c, .agg ([.int .u32 (((mixS s r).a : Nat) : Int), .int .u32 (((mixS s r).b : Nat) : Int), .int .u32 (((mixS s r).c : Nat) : Int), .int .u32 (((mixS s r).d : Nat) : Int), .int .u32 (((mixS s r).e : Nat) : Int), .int .u32 (((mixS s r).f : Nat) : Int), .int .u32 (((mixS s r).g : Nat) : Int), .int .u32 (((mixS s r).h : Nat) : Int)]).toArray, .pointer (some ⟨g3, 0, none⟩), .string (bs r), .string (bs (r.drop 64))] : Array Value).getD q9 Z3), rfl, rfl, M, (plus8_ok ..), ((takeH_more h64).symm.trans hH), ((takeR_more h64).symm.trans hR)⟩
  rw [List.length_drop]; omega
end Go.Proofs.Yb

namespace Go.Proofs.Yb
open Go Go.RowKit Go.Proofs.Num
open List renaming set → Z0, take → Z1, drop → Z2
open Go renaming undef → Z3, wp_seq_k → Z4, wp_cond_true → Z5, wp_cond_false → Z6
open Go.Proofs.Num renaming putT → Z7, wp_region_seq → Z8, wpL_nil → Z9, no_panic → Z10, wpL_chunk → Z11, wpL_move → Z12, wpL_assign → Z13, wpV_nil → Z14, wpV_bin → Z15, wpV_move → Z16, then_normal → Z17, wpL_store1 → Z18, wpV_val → Z19, wpV_callf → Z20
set_option maxHeartbeats 4000000 in
theorem rend_c {n : Nat} {h : S8} {b : List UInt8} {w : World} (hh : h.Ok) (hb : b.length < 64) :
  Calls Tryd.prog 34 #[.agg ([.int .u32 ((h.a : Nat) : Int), .int .u32 ((h.b : Nat) : Int), .int .u32 ((h.c : Nat) : Int), .int .u32 ((h.d : Nat) : Int), .int .u32 ((h.e : Nat) : Int), .int .u32 ((h.f : Nat) : Int), .int .u32 ((h.g : Nat) : Int), .int .u32 ((h.h : Nat) : Int)] ++ [.string (bs b)] ++ [.int .u64 ((n : Nat) : Int)] : List Value).toArray] w fun e w' => e = .returned (.string (bs (endL h b n))) ∧ Below w.heap.size w w' := by
 go_enter Tryd.func34, Tryd.ntmps34
 have M := Mem.start w
 refine Z4 (fun K1 hK1 => ?_)
 refine Z8 ?_
 refine wpL_var (t := 29) (cs := [.int .u32 ((h.a : Nat) : Int), .int .u32 ((h.b : Nat) : Int), .int .u32 ((h.c : Nat) : Int), .int .u32 ((h.d : Nat) : Int), .int .u32 ((h.e : Nat) : Int), .int .u32 ((h.f : Nat) : Int), .int .u32 ((h.g : Nat) : Int), .int .u32 ((h.h : Nat) : Int)] ++ [.string (bs b)] ++ [.int .u64 ((n : Nat) : Int)]) (by rfl) (fun W => ?_) (fun g3 w4 Sw4 Hg3 Bg3 => ?_)
 ·
  (first | rfl | go_simp)
 replace M := ((M.sees Sw4).addS (N := 10) (cs := [.int .u32 ((h.a : Nat) : Int), .int .u32 ((h.b : Nat) : Int), .int .u32 ((h.c : Nat) : Int), .int .u32 ((h.d : Nat) : Int), .int .u32 ((h.e : Nat) : Int), .int .u32 ((h.f : Nat) : Int), .int .u32 ((h.g : Nat) : Int), .int .u32 ((h.h : Nat) : Int)] ++ [.string (bs b)] ++ [.int .u64 ((n : Nat) : Int)]) (segs := [(0, [.int .u32 ((h.a : Nat) : Int), .int .u32 ((h.b : Nat) : Int), .int .u32 ((h.c : Nat) : Int), .int .u32 ((h.d : Nat) : Int), .int .u32 ((h.e : Nat) : Int), .int .u32 ((h.f : Nat) : Int), .int .u32 ((h.g : Nat) : Int), .int .u32 ((h.h : Nat) : Int)]), (8, [.string (bs b)]), (9, [.int .u64 ((n : Nat) : Int)])]) (M.ge Hg3) (M.fresh Hg3) Bg3 (by simp [flen]) ⟨rfl, rfl, rfl, trivial⟩)
 clear Bg3
 simp only [Z7,Z0]
 refine Z13 (v := .string (bs ([]))) (by rfl) (by rfl) (by rfl) ?_
 simp only [Z7,Z0]
 refine Z9 (Z10 ?_)
 refine hK1 _ _ ?_
 refine Z4 (fun K5 hK5 => ?_)
 obtain ⟨z, hz⟩ : ∃ z, (119 - b.length) % 64 = z := ⟨_, rfl⟩
 refine Z8 ?_
 refine wpL_rowN (vs := [.int .u8 128]) (z := .int .u8 0) (bytes := 1) (by rfl) (by rfl) Tryd.underlying35 (by kernel_rfl) (by decide) (by kernel_rfl) (fun g7 w8 Sw8 Hg7 Bg7 => ?_)
 replace M := ((M.sees Sw8).add (N := 1) (cs := [.int .u8 128]) (M.ge Hg7) (M.fresh Hg7) Bg7 rfl)
 clear Bg7
 simp only [Z7,Z0]
 refine Z13 (v := .slice (some ⟨g7, 0, none⟩) 1 1) (by rfl) (by rfl) (by rfl) ?_
 simp only [Z7,Z0]
 refine Z9 (Z10 ?_)
 refine hK5 _ _ ?_
 refine Z4 (fun K9 hK9 => ?_)
 refine wp_block ?_
 replace M := M.read1 (cs := bcells (128 :: List.replicate 0 0)) 0 rfl (show World.rangeAt _ _ _ (bcells (128 :: List.replicate 0 0)) from (M.r 0 0 rfl rfl))
 simp only [Z0] at M
 refine wp_loop_ghost (fun n9 a9 W9 => ∃ (k : Nat) (gb : Nat) (gbc : Nat) (u10 : Nat → Value), n9 = z - k ∧ a9 = { tmps := #[.agg ([.int .u32 ((h.a : Nat) : Int), .int .u32 ((h.b : Nat) : Int), .int .u32 ((h.c : Nat) : Int), .int .u32 ((h.d : Nat) : Int), .int .u32 ((h.e : Nat) : Int), .int .u32 ((h.f : Nat) : Int), .int .u32 ((h.g : Nat) : Int), .int .u32 ((h.h : Nat) : Int)] ++ [.string (bs b)] ++ [.int .u64 ((n : Nat) : Int)] : List Value).toArray, .pointer (some ⟨g3, 0, none⟩), .string (bs ([])), .slice (some ⟨gb, 0, none⟩) (1 + k) gbc, Z3, Z3, Z3, Z3, Z3, Z3, Z3, Z3, Z3, .slice (some ⟨g7, 0, none⟩) 1 1, u10 14, u10 15, u10 16, u10 17, u10 18, u10 19, u10 20, u10 21, u10 22, u10 23, u10 24, u10 25, Z3, Z3, Z3, Z3, Z3, Z3, Z3, Z3, Z3, Z3, Z3, Z3, Z3, Z3, Z3, Z3, Z3, Z3, Z3, Z3, Z3, Z3, Z3, Z3, Z3, Z3, Z3, Z3, Z3, Z3, Z3, Z3, Z3, Z3, Z3, Z3, Z3, Z3, Z3, Z3, Z3, Z3, Z3, Z3, Z3, Z3, Z3, Z3, Z3, Z3], defers := [] } ∧ Mem [] w W9 [⟨g3, 10, [(0, [.int .u32 ((h.a : Nat) : Int), .int .u32 ((h.b : Nat) : Int), .int .u32 ((h.c : Nat) : Int), .int .u32 ((h.d : Nat) : Int), .int .u32 ((h.e : Nat) : Int), .int .u32 ((h.f : Nat) : Int), .int .u32 ((h.g : Nat) : Int), .int .u32 ((h.h : Nat) : Int)]), (8, [.string (bs b)]), (9, [.int .u64 ((n : Nat) : Int)])]⟩, ⟨gb, gbc, [(0, bcells (128 :: List.replicate k 0))]⟩] ∧ 1 + k ≤ gbc ∧ (k ≤ z)) (z - (0)) ?_ (fun n9 a9 W9 hI => ?_)
 ·
  exact ⟨0, g7, 1, (fun q9 => (#[Z3, Z3, Z3, Z3, Z3, Z3, Z3, Z3, Z3, Z3, Z3, Z3, Z3, Z3, Z3, Z3, Z3, Z3, Z3, Z3, Z3, Z3, Z3, Z3, Z3, Z3] : Array Value).getD q9 Z3), rfl, rfl, (M.pick [1, 0] (by decide) rfl), (Nat.le_refl _), (by omega)⟩
 clear M
 obtain ⟨k, gb, gbc, u10, rfl, rfl, M, Cgb, hk4⟩ := hI
 obtain ⟨w11, rfl⟩ : ∃ W8, W8 = W9 := ⟨_, rfl⟩
 refine Z4 (fun K12 hK12 => ?_)
 refine Z4 (fun K13 hK13 => ?_)
 refine Z8 ?_
 refine Z11 9 (by rfl) (fun Lk hLk => ?_)
 simp only [Z1,Z2]
 refine Z19 (v := .pointer (some ⟨g3, 8, none⟩)) (by rfl) (by rfl) (fun W hW => ?_) ?_
 ·
  (go_simp; exact rfl)
 simp only [Z7,Z0]
 refine wpV_load1 (v := .string (bs b)) (by rfl) rfl rfl (range_one (M.r 0 1 rfl rfl)) (M.lt 0 rfl) Tryd.underlying9 rfl ?_
 simp only [Z7,Z0]
 refine wpV_lenS (by rfl) rfl rfl rfl Tryd.underlying9 ?_
 simp only [Z7,Z0]
 refine Z16 (v := .slice (some ⟨gb, 0, none⟩) (1 + k) gbc) (by rfl) rfl rfl ?_
 simp only [Z7,Z0]
 refine wpV_lenA (n := 1 + k) (by rfl) rfl rfl rfl Tryd.underlying35 ?_
 simp only [Z7,Z0]
 refine Z15 (v := .int .i64 ((b.length + 1 + k : Nat) : Int)) (by rfl) rfl rfl rfl (fun W => run_add (by simp only [IntKind.wrap_i64]; omega) W) ?_
 simp only [Z7,Z0]
 refine Z15 (v := .int .i64 ((b.length + 1 + k + 8 : Nat) : Int)) (by rfl) rfl rfl rfl (fun W => run_add (by simp only [IntKind.wrap_i64]; omega) W) ?_
 simp only [Z7,Z0]
 refine Z15 (v := .int .i64 (((b.length + 1 + k + 8) % 64 : Nat) : Int)) (by rfl) rfl rfl rfl (fun W => run_rem (by decide) (tmod_nat (b.length + 1 + k + 8) 64) W) ?_
 simp only [Z7,Z0]
 refine Z15 (v := .bool (decide ((b.length + 1 + k + 8) % 64 ≠ 0))) (by rfl) rfl rfl rfl (fun W => run_neqN ((b.length + 1 + k + 8) % 64) 0 _ _ W) ?_
 simp only [Z7,Z0]
 refine Z14 (hLk _ (fun w15 Sw15 => ?_))
 clear hLk Lk
 simp only [Z1,Z2]
 replace M := M.sees Sw15
 refine Z9 (Z10 ?_)
 refine hK13 _ _ ?_
 cases hc16 : (decide ((b.length + 1 + k + 8) % 64 ≠ 0))
 ·
  have ek : k = z := (zeros_iff hb hz hk4).1 (Decidable.not_not.1 (of_decide_eq_false hc16))
  subst ek
  refine Z6 rfl ?_
  refine wp_exit ?_
  refine hK9 _ _ ?_
  refine Z4 (fun K17 hK17 => ?_)
  obtain ⟨m, hm⟩ : ∃ m, n * 8 % 18446744073709551616 = m := ⟨_, rfl⟩
  refine Z8 ?_
  refine Z11 3 (by rfl) (fun Lk hLk => ?_)
  simp only [Z1,Z2]
  refine Z19 (v := .pointer (some ⟨g3, 9, none⟩)) (by rfl) (by rfl) (fun W hW => ?_) ?_
  ·
   (go_simp; exact rfl)
  simp only [Z7,Z0]
  refine wpV_load1 (v := .int .u64 ((n : Nat) : Int)) (by rfl) rfl rfl (range_one (M.r 0 2 rfl rfl)) (M.lt 0 rfl) Tryd.underlying27 rfl ?_
  simp only [Z7,Z0]
  refine Z15 (v := .int .u64 ((m : Nat) : Int)) (by rfl) rfl rfl rfl (fun W => (by have := nr_mul64 (P := Tryd.prog) 27 8 n W; rw [Nat.mul_comm 8 n, hm] at this; exact this)) ?_
  simp only [Z7,Z0]
  refine Z14 (hLk _ (fun w19 Sw19 => ?_))
  clear hLk Lk
  simp only [Z1,Z2]
  replace M := M.sees Sw19
  refine Z13 (v := .int .u64 ((m : Nat) : Int)) (by rfl) (by rfl) (by rfl) ?_
  simp only [Z7,Z0]
  refine Z9 (Z10 ?_)
  refine hK17 _ _ ?_
  refine Z4 (fun K20 hK20 => ?_)
  refine Z8 ?_
  refine wpL_make (n := 8) (z := .int .u8 0) (bytes := 1) (by rfl) (by rfl) (by rfl) (by rfl) Tryd.underlying35 (by kernel_rfl) rfl (by omega) (by omega) (fun g22 w23 Sw23 Hg22 Bg22 => ?_)
  replace M := ((M.sees Sw23).add (N := 8) (cs := List.replicate 8 (.int .u8 0)) (M.ge Hg22) (M.fresh Hg22) Bg22 (by simp [flen]))
  clear Bg22
  simp only [Z7,Z0]
  refine Z13 (v := .slice (some ⟨g22, 0, none⟩) 8 8) (by rfl) (by rfl) (by rfl) ?_
  simp only [Z7,Z0]
  refine Z9 (Z10 ?_)
  refine hK20 _ _ ?_
  refine Z4 (fun K24 hK24 => ?_)
  refine Z4 (fun K25 hK25 => ?_)
  have hm64 : m < 18446744073709551616 := hm ▸ mod_lt64 _
  refine Z8 ?_
  refine Z13 (v := .int .i64 8) (by rfl) (by rfl) (by rfl) ?_
  simp only [Z7,Z0]
  refine Z9 (Z10 ?_)
  refine hK25 _ _ ?_
  refine wp_block ?_
  replace M := M.read1 (cs := bl 8 (rowF m 8)) (o := 0) 0 rfl (by rw [← row_first]; exact (M.r 0 0 rfl rfl))
  simp only [Z0] at M
  refine wp_loop_ghost (fun n9 a9 W9 => ∃ (i : Nat) (p : Nat) (u27 : Nat → Value), n9 = 2 * i ∧ a9 = { tmps := #[.agg ([.int .u32 ((h.a : Nat) : Int), .int .u32 ((h.b : Nat) : Int), .int .u32 ((h.c : Nat) : Int), .int .u32 ((h.d : Nat) : Int), .int .u32 ((h.e : Nat) : Int), .int .u32 ((h.f : Nat) : Int), .int .u32 ((h.g : Nat) : Int), .int .u32 ((h.h : Nat) : Int)] ++ [.string (bs b)] ++ [.int .u64 ((n : Nat) : Int)] : List Value).toArray, .pointer (some ⟨g3, 0, none⟩), .string (bs ([])), .slice (some ⟨gb, 0, none⟩) (1 + k) gbc, .int .u64 ((p : Nat) : Int), .slice (some ⟨g22, 0, none⟩) 8 8, .int .i64 ((i : Nat) : Int), Z3, Z3, Z3, Z3, Z3, Z3, .slice (some ⟨g7, 0, none⟩) 1 1, .pointer (some ⟨g3, 8, none⟩), .string (bs b), .int .i64 ((b.length : Nat) : Int), .slice (some ⟨gb, 0, none⟩) (1 + k) gbc, .int .i64 ((1 + k : Nat) : Int), .int .i64 ((b.length + 1 + k : Nat) : Int), .int .i64 ((b.length + 1 + k + 8 : Nat) : Int), .int .i64 (((b.length + 1 + k + 8) % 64 : Nat) : Int), .bool false, u10 23, u10 24, u10 25, .pointer (some ⟨g3, 9, none⟩), .int .u64 ((n : Nat) : Int), .int .u64 ((m : Nat) : Int), .slice (some ⟨g22, 0, none⟩) 8 8, u27 30, u27 31, u27 32, u27 33, u27 34, u27 35, u27 36, u27 37, u27 38, u27 39, u27 40, u27 41, u27 42, Z3, Z3, Z3, Z3, Z3, Z3, Z3, Z3, Z3, Z3, Z3, Z3, Z3, Z3, Z3, Z3, Z3, Z3, Z3, Z3, Z3, Z3, Z3, Z3, Z3, Z3, Z3, Z3, Z3, Z3, Z3, Z3, Z3], defers := [] } ∧ Mem [] w W9 [⟨g22, 8, [(0, bl 8 (rowF m i))]⟩, ⟨g3, 10, [(0, [.int .u32 ((h.a : Nat) : Int), .int .u32 ((h.b : Nat) : Int), .int .u32 ((h.c : Nat) : Int), .int .u32 ((h.d : Nat) : Int), .int .u32 ((h.e : Nat) : Int), .int .u32 ((h.f : Nat) : Int), .int .u32 ((h.g : Nat) : Int), .int .u32 ((h.h : Nat) : Int)]), (8, [.string (bs b)]), (9, [.int .u64 ((n : Nat) : Int)])]⟩, ⟨gb, gbc, [(0, bcells (128 :: List.replicate k 0))]⟩] ∧ (i ≤ 8) ∧ (p = m / 256 ^ (8 - i))) (2 * (8)) ?_ (fun n9 a9 W9 hI => ?_)
  ·
   exact ⟨8, m, (fun q9 => (#[Z3, Z3, Z3, Z3, Z3, Z3, Z3, Z3, Z3, Z3, Z3, Z3, Z3, Z3, Z3, Z3, Z3, Z3, Z3, Z3, Z3, Z3, Z3, Z3, Z3, Z3, Z3, Z3, Z3, Z3, Z3, Z3, Z3, Z3, Z3, Z3, Z3, Z3, Z3, Z3, Z3, Z3, Z3] : Array Value).getD q9 Z3), rfl, rfl, M, (by omega), (by rw [Nat.sub_self, Nat.pow_zero, Nat.div_one])⟩
  clear M
  obtain ⟨i, p, u27, rfl, rfl, M, hi4, hp⟩ := hI
  obtain ⟨w28, rfl⟩ : ∃ W8, W8 = W9 := ⟨_, rfl⟩
  refine Z4 (fun K29 hK29 => ?_)
  refine Z4 (fun K30 hK30 => ?_)
  refine Z8 ?_
  refine Z12 (v := .int .i64 ((i : Nat) : Int)) (by rfl) (by rfl) (by rfl) ?_
  simp only [Z7,Z0]
  refine Z11 1 (by rfl) (fun Lk hLk => ?_)
  simp only [Z1,Z2]
  refine Z15 (v := .bool (decide (0 < i))) (by rfl) rfl rfl rfl (fun W => run_gtrN i 0 _ _ W) ?_
  simp only [Z7,Z0]
  refine Z14 (hLk _ (fun w32 Sw32 => ?_))
  clear hLk Lk
  simp only [Z1,Z2]
  replace M := M.sees Sw32
  refine Z9 (Z10 ?_)
  refine hK30 _ _ ?_
  cases hc33 : (decide (0 < i))
  ·
   have ei : i = 0 := by have := of_decide_eq_false hc33; omega
   subst ei
   refine Z6 rfl ?_
   refine wp_exit ?_
   refine hK24 _ _ ?_
   refine Z4 (fun K34 hK34 => ?_)
   rw [row_end] at M
   refine Z8 ?_
   refine Z12 (v := .slice (some ⟨gb, 0, none⟩) (1 + k) gbc) (by rfl) (by rfl) (by rfl) ?_
   simp only [Z7,Z0]
   refine Z12 (v := .slice (some ⟨g22, 0, none⟩) 8 8) (by rfl) (by rfl) (by rfl) ?_
   simp only [Z7,Z0]
   refine wpL_append (olds := bcells (128 :: List.replicate k 0)) (news := bcells (be8 m)) (z := .int .u8 0) (bytes := 1) (by rfl) (by rfl) (by rfl) (by rfl) Tryd.underlying35 (by kernel_rfl) rfl rfl (by rw [bcells_len, List.length_cons, List.length_replicate, Nat.add_comm]) (by rw [bcells_len, be8_len]) (M.r 2 0 rfl rfl) (M.t 2 rfl) (M.lt 2 rfl) (M.r 0 0 rfl rfl) (bcells_one _) (by omega) (by unfold maxLen; omega) (fun g36 g36c w37 Sw37 Q Cg36 R T L => ?_)
   replace M := M.grow 2 rfl Sw37 Q R T L
   simp only [Z0] at M
   clear Q R T L
   rw [show bcells (128 :: List.replicate k 0) ++ bcells (be8 m) = bcells (tailL b.length n) from hm ▸ tail_join hz] at M
   simp only [Z7,Z0]
   refine Z13 (v := .slice (some ⟨g36, 0, none⟩) (1 + k + 8) g36c) (by rfl) (by rfl) (by rfl) ?_
   simp only [Z7,Z0]
   refine Z9 (Z10 ?_)
   refine hK34 _ _ ?_
   refine Z4 (fun K38 hK38 => ?_)
   refine Z8 ?_
   refine Z11 4 (by rfl) (fun Lk hLk => ?_)
   simp only [Z1,Z2]
   refine wpV_load (cs := [.int .u32 ((h.a : Nat) : Int), .int .u32 ((h.b : Nat) : Int), .int .u32 ((h.c : Nat) : Int), .int .u32 ((h.d : Nat) : Int), .int .u32 ((h.e : Nat) : Int), .int .u32 ((h.f : Nat) : Int), .int .u32 ((h.g : Nat) : Int), .int .u32 ((h.h : Nat) : Int)] ++ [.string (bs b)] ++ [.int .u64 ((n : Nat) : Int)]) (by rfl) rfl rfl (range_join (range_join (M.r 1 0 rfl rfl) (M.r 1 1 rfl rfl) (by simp [flen])) (M.r 1 2 rfl rfl) (by simp [flen])) (M.lt 1 rfl) Tryd.underlying29 rfl info29 ?_
   simp only [Z7,Z0]
   refine Z16 (v := .slice (some ⟨g36, 0, none⟩) (1 + k + 8) g36c) (by rfl) rfl rfl ?_
   simp only [Z7,Z0]
   refine wpV_b2s (l := (tailL b.length n)) (by rfl) rfl rfl (by rw [tailL_len]; omega) Tryd.underlying35 Tryd.underlying5 Tryd.underlying9 (M.r 2 0 rfl rfl) (M.lt 2 rfl) ?_
   simp only [Z7,Z0]
   refine Z20 (v := .agg ([.int .u32 (((takeH h (b ++ (tailL b.length n))).a : Nat) : Int), .int .u32 (((takeH h (b ++ (tailL b.length n))).b : Nat) : Int), .int .u32 (((takeH h (b ++ (tailL b.length n))).c : Nat) : Int), .int .u32 (((takeH h (b ++ (tailL b.length n))).d : Nat) : Int), .int .u32 (((takeH h (b ++ (tailL b.length n))).e : Nat) : Int), .int .u32 (((takeH h (b ++ (tailL b.length n))).f : Nat) : Int), .int .u32 (((takeH h (b ++ (tailL b.length n))).g : Nat) : Int), .int .u32 (((takeH h (b ++ (tailL b.length n))).h : Nat) : Int)] ++ [.string (bs (takeR (b ++ (tailL b.length n))))] ++ [.int .u64 ((((n + (tailL b.length n).length) % 18446744073709551616) : Nat) : Int)] : List Value).toArray) (args := #[.agg ([.int .u32 ((h.a : Nat) : Int), .int .u32 ((h.b : Nat) : Int), .int .u32 ((h.c : Nat) : Int), .int .u32 ((h.d : Nat) : Int), .int .u32 ((h.e : Nat) : Int), .int .u32 ((h.f : Nat) : Int), .int .u32 ((h.g : Nat) : Int), .int .u32 ((h.h : Nat) : Int)] ++ [.string (bs b)] ++ [.int .u64 ((n : Nat) : Int)] : List Value).toArray, .string (bs (tailL b.length n))]) (by rfl) rfl Tryd.func35 (by kernel_rfl) (by kernel_rfl) rfl (fun W hW => by with_reducible exact rwrite_c (h := h) (b := b) (l := (tailL b.length n)) (n := n) hh hb (by rw [tailL_len]; omega)) ?_
   simp only [Z7,Z0]
   refine Z14 (hLk _ (fun w40 Sw40 => ?_))
   clear hLk Lk
   simp only [Z1,Z2]
   replace M := M.sees Sw40
   refine wpL_var (t := 29) (cs := [.int .u32 0, .int .u32 0, .int .u32 0, .int .u32 0, .int .u32 0, .int .u32 0, .int .u32 0, .int .u32 0, .string { data := #[] }, .int .u64 0]) (by rfl) (fun W => ?_) (fun g41 w42 Sw42 Hg41 Bg41 => ?_)
   ·
    go_simp
   replace M := ((M.sees Sw42).addS (N := 10) (cs := [.int .u32 0, .int .u32 0, .int .u32 0, .int .u32 0, .int .u32 0, .int .u32 0, .int .u32 0, .int .u32 0, .string { data := #[] }, .int .u64 0]) (segs := [(0, [.int .u32 0, .int .u32 0, .int .u32 0, .int .u32 0, .int .u32 0, .int .u32 0, .int .u32 0, .int .u32 0]), (8, [.string { data := #[] }]), (9, [.int .u64 0])]) (M.ge Hg41) (M.fresh Hg41) Bg41 rfl ⟨rfl, rfl, rfl, trivial⟩)
   clear Bg41
   simp only [Z7,Z0]
   refine wpL_store (g := g41) (off := 0) (n := 10) (cs := [.int .u32 (((takeH h (b ++ (tailL b.length n))).a : Nat) : Int), .int .u32 (((takeH h (b ++ (tailL b.length n))).b : Nat) : Int), .int .u32 (((takeH h (b ++ (tailL b.length n))).c : Nat) : Int), .int .u32 (((takeH h (b ++ (tailL b.length n))).d : Nat) : Int), .int .u32 (((takeH h (b ++ (tailL b.length n))).e : Nat) : Int), .int .u32 (((takeH h (b ++ (tailL b.length n))).f : Nat) : Int), .int .u32 (((takeH h (b ++ (tailL b.length n))).g : Nat) : Int), .int .u32 (((takeH h (b ++ (tailL b.length n))).h : Nat) : Int)] ++ [.string (bs (takeR (b ++ (tailL b.length n))))] ++ [.int .u64 ((((n + (tailL b.length n).length) % 18446744073709551616) : Nat) : Int)]) (by rfl) (by rfl) (by rfl) (by rfl) (by rfl) (M.t 0 rfl) (by simp [flen]) info29 (by simp [fone, Value.oneCell']) (fun w43 P R T => ?_)
   replace M := M.put (segs' := [(0, [.int .u32 (((takeH h (b ++ (tailL b.length n))).a : Nat) : Int), .int .u32 (((takeH h (b ++ (tailL b.length n))).b : Nat) : Int), .int .u32 (((takeH h (b ++ (tailL b.length n))).c : Nat) : Int), .int .u32 (((takeH h (b ++ (tailL b.length n))).d : Nat) : Int), .int .u32 (((takeH h (b ++ (tailL b.length n))).e : Nat) : Int), .int .u32 (((takeH h (b ++ (tailL b.length n))).f : Nat) : Int), .int .u32 (((takeH h (b ++ (tailL b.length n))).g : Nat) : Int), .int .u32 (((takeH h (b ++ (tailL b.length n))).h : Nat) : Int)]), (8, [.string (bs (takeR (b ++ (tailL b.length n))))]), (9, [.int .u64 ((((n + (tailL b.length n).length) % 18446744073709551616) : Nat) : Int)])]) 0 rfl P T (SegsOf.at R ⟨rfl, rfl, rfl, trivial⟩)
   simp only [Z0] at M
   refine Z9 (Z10 ?_)
   refine hK38 _ _ ?_
   refine Z4 (fun K44 hK44 => ?_)
   refine Z8 ?_
   refine wpL_row0 (by rfl) (by rfl) Tryd.underlying35 info5 (fun g46 w47 Sw47 Hg46 Bg46 => ?_)
   replace M := ((M.sees Sw47).add (N := 0) (cs := bcells []) (M.ge Hg46) (M.fresh Hg46) Bg46 rfl)
   clear Bg46
   simp only [Z7,Z0]
   refine Z13 (v := .slice (some ⟨g46, 0, none⟩) 0 0) (by rfl) (by rfl) (by rfl) ?_
   simp only [Z7,Z0]
   refine Z9 (Z10 ?_)
   refine hK44 _ _ ?_
   refine Z4 (fun K48 hK48 => ?_)
   refine Z4 (fun K49 hK49 => ?_)
   have hok : (takeH h (b ++ (tailL b.length n))).Ok := takeH_ok _ _ _ (Nat.le_refl _) hh
   generalize hS : takeH h (b ++ (tailL b.length n)) = S at M hok ⊢
   refine Z8 ?_
   refine Z11 2 (by rfl) (fun Lk hLk => ?_)
   simp only [Z1,Z2]
   refine Z19 (v := .pointer (some ⟨g41, 0, none⟩)) (by rfl) (by rfl) (fun W hW => ?_) ?_
   ·
    (go_simp; exact rfl)
   simp only [Z7,Z0]
   refine wpV_load (cs := [.int .u32 ((S.a : Nat) : Int), .int .u32 ((S.b : Nat) : Int), .int .u32 ((S.c : Nat) : Int), .int .u32 ((S.d : Nat) : Int), .int .u32 ((S.e : Nat) : Int), .int .u32 ((S.f : Nat) : Int), .int .u32 ((S.g : Nat) : Int), .int .u32 ((S.h : Nat) : Int)]) (by rfl) rfl rfl (M.r 1 0 rfl rfl) (M.lt 1 rfl) Tryd.underlying26 rfl info26 ?_
   simp only [Z7,Z0]
   refine Z14 (hLk _ (fun w51 Sw51 => ?_))
   clear hLk Lk
   simp only [Z1,Z2]
   replace M := M.sees Sw51
   refine Z12 (v := .int .i64 0) (by rfl) (by rfl) (by rfl) ?_
   simp only [Z7,Z0]
   refine Z9 (Z10 ?_)
   refine hK49 _ _ ?_
   refine wp_block ?_
   replace M := M.read1 (cs := bcells ((outS S).take (4 * 0))) 0 rfl (show World.rangeAt _ _ _ [] from (M.r 0 0 rfl rfl))
   simp only [Z0] at M
   refine wp_loop_ghost (fun n9 a9 W9 => ∃ (q : Nat) (go : Nat) (goc : Nat) (u52 : Nat → Value), n9 = 8 - q ∧ a9 = { tmps := #[.agg ([.int .u32 ((h.a : Nat) : Int), .int .u32 ((h.b : Nat) : Int), .int .u32 ((h.c : Nat) : Int), .int .u32 ((h.d : Nat) : Int), .int .u32 ((h.e : Nat) : Int), .int .u32 ((h.f : Nat) : Int), .int .u32 ((h.g : Nat) : Int), .int .u32 ((h.h : Nat) : Int)] ++ [.string (bs b)] ++ [.int .u64 ((n : Nat) : Int)] : List Value).toArray, .pointer (some ⟨g3, 0, none⟩), .string (bs ([])), .slice (some ⟨g36, 0, none⟩) (1 + k + 8) g36c, .int .u64 ((p : Nat) : Int), .slice (some ⟨g22, 0, none⟩) 8 8, .int .i64 ((0 : Nat) : Int), .pointer (some ⟨g41, 0, none⟩), .slice (some ⟨go, 0, none⟩) (4 * q) goc, Z3, u52 10, u52 11, u52 12, .slice (some ⟨g7, 0, none⟩) 1 1, .pointer (some ⟨g3, 8, none⟩), .string (bs b), .int .i64 ((b.length : Nat) : Int), .slice (some ⟨gb, 0, none⟩) (1 + k) gbc, .int .i64 ((1 + k : Nat) : Int), .int .i64 ((b.length + 1 + k : Nat) : Int), .int .i64 ((b.length + 1 + k + 8 : Nat) : Int), .int .i64 (((b.length + 1 + k + 8) % 64 : Nat) : Int), .bool false, u10 23, u10 24, u10 25, .pointer (some ⟨g3, 9, none⟩), .int .u64 ((n : Nat) : Int), .int .u64 ((m : Nat) : Int), .slice (some ⟨g22, 0, none⟩) 8 8, .int .i64 ((0 : Nat) : Int), .bool false, u27 32, u27 33, u27 34, u27 35, u27 36, u27 37, u27 38, u27 39, u27 40, u27 41, u27 42, .slice (some ⟨gb, 0, none⟩) (1 + k) gbc, .slice (some ⟨g22, 0, none⟩) 8 8, .slice (some ⟨g36, 0, none⟩) (1 + k + 8) g36c, .agg ([.int .u32 ((h.a : Nat) : Int), .int .u32 ((h.b : Nat) : Int), .int .u32 ((h.c : Nat) : Int), .int .u32 ((h.d : Nat) : Int), .int .u32 ((h.e : Nat) : Int), .int .u32 ((h.f : Nat) : Int), .int .u32 ((h.g : Nat) : Int), .int .u32 ((h.h : Nat) : Int)] ++ [.string (bs b)] ++ [.int .u64 ((n : Nat) : Int)] : List Value).toArray, .slice (some ⟨g36, 0, none⟩) (1 + k + 8) g36c, .string (bs (tailL b.length n)), .agg ([.int .u32 ((S.a : Nat) : Int), .int .u32 ((S.b : Nat) : Int), .int .u32 ((S.c : Nat) : Int), .int .u32 ((S.d : Nat) : Int), .int .u32 ((S.e : Nat) : Int), .int .u32 ((S.f : Nat) : Int), .int .u32 ((S.g : Nat) : Int), .int .u32 ((S.h : Nat) : Int)] ++ [.string (bs (takeR (b ++ (tailL b.length n))))] ++ [.int .u64 ((((n + (tailL b.length n).length) % 18446744073709551616) : Nat) : Int)] : List Value).toArray, .slice (some ⟨g46, 0, none⟩) 0 0, .pointer (some ⟨g41, 0, none⟩), .agg ([.int .u32 ((S.a : Nat) : Int), .int .u32 ((S.b : Nat) : Int), .int .u32 ((S.c : Nat) : Int), .int .u32 ((S.d : Nat) : Int), .int .u32 ((S.e : Nat) : Int), .int .u32 ((S.f : Nat) : Int), .int .u32 ((S.g : Nat) : Int), .int .u32 ((S.h : Nat) : Int)]).toArray, .int .i64 ((q : Nat) : Int), u52 54, u52 55, u52 56, u52 57, u52 58, u52 59, u52 60, u52 61, u52 62, u52 63, u52 64, u52 65, u52 66, u52 67, u52 68, u52 69, u52 70, u52 71, u52 72, u52 73, Z3, Z3], defers := [] } ∧ Mem [] w W9 [⟨g41, 10, [(0, [.int .u32 ((S.a : Nat) : Int), .int .u32 ((S.b : Nat) : Int), .int .u32 ((S.c : Nat) : Int), .int .u32 ((S.d : Nat) : Int), .int .u32 ((S.e : Nat) : Int), .int .u32 ((S.f : Nat) : Int), .int .u32 ((S.g : Nat) : Int), .int .u32 ((S.h : Nat) : Int)]), (8, [.string (bs (takeR (b ++ (tailL b.length n))))]), (9, [.int .u64 ((((n + (tailL b.length n).length) % 18446744073709551616) : Nat) : Int)])]⟩, ⟨g22, 8, [(0, bcells (be8 m))]⟩, ⟨g3, 10, [(0, [.int .u32 ((h.a : Nat) : Int), .int .u32 ((h.b : Nat) : Int), .int .u32 ((h.c : Nat) : Int), .int .u32 ((h.d : Nat) : Int), .int .u32 ((h.e : Nat) : Int), .int .u32 ((h.f : Nat) : Int), .int .u32 ((h.g : Nat) : Int), .int .u32 ((h.h : Nat) : Int)]), (8, [.string (bs b)]), (9, [.int .u64 ((n : Nat) : Int)])]⟩, ⟨g36, g36c, [(0, bcells (tailL b.length n))]⟩, ⟨go, goc, [(0, bcells ((outS S).take (4 * q)))]⟩] ∧ 4 * q ≤ goc ∧ (q ≤ 8)) (8 - (0)) ?_ (fun n9 a9 W9 hI => ?_)
   ·
    exact ⟨0, g46, 0, (fun q9 => (#[Z3, Z3, Z3, Z3, Z3, Z3, Z3, Z3, Z3, Z3, Z3, Z3, Z3, Z3, Z3, Z3, Z3, Z3, Z3, Z3, Z3, Z3, Z3, Z3, Z3, Z3, Z3, Z3, Z3, Z3, Z3, Z3, Z3, Z3, Z3, Z3, Z3, Z3, Z3, Z3, Z3, Z3, Z3, Z3, Z3, Z3, Z3, Z3, Z3, Z3, Z3, Z3, Z3, Z3, Z3, Z3, Z3, Z3, Z3, Z3, Z3, Z3, Z3, Z3, Z3, Z3, Z3, Z3, Z3, Z3, Z3, Z3, Z3, Z3] : Array Value).getD q9 Z3), rfl, rfl, (M.pick [1, 2, 3, 4, 0] (by decide) rfl), (Nat.le_refl _), (by omega)⟩
   clear M
   obtain ⟨q, go, goc, u52, rfl, rfl, M, Cgo, hq4⟩ := hI
   obtain ⟨w53, rfl⟩ : ∃ W8, W8 = W9 := ⟨_, rfl⟩
   refine Z4 (fun K54 hK54 => ?_)
   refine Z8 ?_
   refine Z11 1 (by rfl) (fun Lk hLk => ?_)
   simp only [Z1,Z2]
   refine Z15 (v := .bool (decide (q < 8))) (by rfl) rfl rfl rfl (fun W => run_lssN q 8 _ _ W) ?_
   simp only [Z7,Z0]
   refine Z14 (hLk _ (fun w56 Sw56 => ?_))
   clear hLk Lk
   simp only [Z1,Z2]
   replace M := M.sees Sw56
   refine Z9 (Z10 ?_)
   refine hK54 _ _ ?_
   refine Z4 (fun K57 hK57 => ?_)
   cases hc58 : (decide (q < 8))
   ·
    have eq : q = 8 := by have := of_decide_eq_false hc58; omega
    subst eq
    refine Z6 rfl ?_
    refine wp_exit ?_
    refine hK48 _ _ ?_
    refine Z4 (fun K59 hK59 => ?_)
    refine Z8 ?_
    refine Z12 (v := .slice (some ⟨go, 0, none⟩) (4 * 8) goc) (by rfl) (by rfl) (by rfl) ?_
    simp only [Z7,Z0]
    refine Z11 1 (by rfl) (fun Lk hLk => ?_)
    simp only [Z1,Z2]
    refine wpV_b2s (l := ((outS S).take (4 * 8))) (by rfl) rfl rfl (by rw [List.length_take, outS_len]; rfl) Tryd.underlying35 Tryd.underlying5 Tryd.underlying9 (M.r 4 0 rfl rfl) (M.lt 4 rfl) ?_
    simp only [Z7,Z0]
    refine Z14 (hLk _ (fun w61 Sw61 => ?_))
    clear hLk Lk
    simp only [Z1,Z2]
    replace M := M.sees Sw61
    refine Z13 (v := .string (bs ((outS S).take (4 * 8)))) (by rfl) (by rfl) (by rfl) ?_
    simp only [Z7,Z0]
    refine Z9 (Z10 ?_)
    refine hK59 _ _ ?_
    refine wp_ret ?_
    repeat (first | with_reducible refine then_ret ?_ | with_reducible refine inblock_ret ?_)
    refine bodyPost_ret (v := .string (bs ((outS S).take (4 * 8)))) (res1 rfl (.tmp (by rfl))) rfl ?_
    have BE := M.below
    exact ⟨by rw [List.take_of_length_le (by rw [outS_len]; decide), ← hS]; rfl, BE⟩
   ·
    have hq : q < 8 := of_decide_eq_true hc58
    refine Z5 rfl ?_
    refine wp_skip ?_
    refine hK57 _ _ ?_
    refine Z4 (fun K62 hK62 => ?_)
    refine wp_block ?_
    refine Z4 (fun K63 hK63 => ?_)
    refine Z8 ?_
    refine Z11 1 (by rfl) (fun Lk hLk => ?_)
    simp only [Z1,Z2]
    refine wpV_index (n := q) (v := .int .u32 ((S.get q : Nat) : Int)) (by rfl) rfl rfl rfl Tryd.underlying26 info25 Tryd.underlying25 rfl (by omega) (c8_get S hq) ?_
    simp only [Z7,Z0]
    refine Z14 (hLk _ (fun w65 Sw65 => ?_))
    clear hLk Lk
    simp only [Z1,Z2]
    replace M := M.sees Sw65
    refine Z13 (v := .int .u32 ((S.get q : Nat) : Int)) (by rfl) (by rfl) (by rfl) ?_
    simp only [Z7,Z0]
    refine Z9 (Z10 ?_)
    refine hK63 _ _ ?_
    refine Z4 (fun K66 hK66 => ?_)
    refine Z8 ?_
    refine wpL_make (n := 4) (z := .int .u8 0) (bytes := 1) (by rfl) (by rfl) (by rfl) (by rfl) Tryd.underlying35 (by kernel_rfl) rfl (by omega) (by omega) (fun g68 w69 Sw69 Hg68 Bg68 => ?_)
    replace M := ((M.sees Sw69).add (N := 4) (cs := List.replicate 4 (.int .u8 0)) (M.ge Hg68) (M.fresh Hg68) Bg68 (by simp [flen]))
    clear Bg68
    simp only [Z7,Z0]
    refine Z13 (v := .slice (some ⟨g68, 0, none⟩) 4 4) (by rfl) (by rfl) (by rfl) ?_
    simp only [Z7,Z0]
    refine Z9 (Z10 ?_)
    refine hK66 _ _ ?_
    refine Z4 (fun K70 hK70 => ?_)
    refine Z4 (fun K71 hK71 => ?_)
    refine Z8 ?_
    refine Z13 (v := .int .i64 4) (by rfl) (by rfl) (by rfl) ?_
    simp only [Z7,Z0]
    refine Z9 (Z10 ?_)
    refine hK71 _ _ ?_
    refine wp_block ?_
    refine wp_loop_rounds 5 ?_
    rw [rounds_succ]
    refine Z4 (fun K73 hK73 => ?_)
    refine Z4 (fun K74 hK74 => ?_)
    refine Z8 ?_
    refine Z12 (v := .int .i64 4) (by rfl) (by rfl) (by rfl) ?_
    simp only [Z7,Z0]
    refine Z11 1 (by rfl) (fun Lk hLk => ?_)
    simp only [Z1,Z2]
    refine Z15 (v := .bool true) (by rfl) rfl rfl rfl (fun W => run_gtr _ _ _ _ W) ?_
    simp only [Z7,Z0]
    refine Z14 (hLk _ (fun w76 Sw76 => ?_))
    clear hLk Lk
    simp only [Z1,Z2]
    replace M := M.sees Sw76
    refine Z9 (Z10 ?_)
    refine hK74 _ _ ?_
    refine Z5 rfl ?_
    refine wp_skip ?_
    refine hK73 _ _ ?_
    refine Z4 (fun K77 hK77 => ?_)
    refine wp_block ?_
    refine Z4 (fun K78 hK78 => ?_)
    refine Z8 ?_
    refine Z12 (v := .slice (some ⟨g68, 0, none⟩) 4 4) (by rfl) (by rfl) (by rfl) ?_
    simp only [Z7,Z0]
    refine Z12 (v := .int .i64 4) (by rfl) (by rfl) (by rfl) ?_
    simp only [Z7,Z0]
    refine Z11 5 (by rfl) (fun Lk hLk => ?_)
    simp only [Z1,Z2]
    refine Z15 (v := .int .i64 3) (by rfl) rfl rfl rfl (fun W => run_sub (by decide) W) ?_
    simp only [Z7,Z0]
    refine Z16 (v := .int .u32 ((S.get q : Nat) : Int)) (by rfl) rfl rfl ?_
    simp only [Z7,Z0]
    refine Z15 (v := .int .u32 (((S.get q) % 256 : Nat) : Int)) (by rfl) rfl rfl rfl (fun W => nr_rem32 (x := S.get q) (y := 256) (by decide) W) ?_
    simp only [Z7,Z0]
    refine wpV_conv (d := .bool) (e := ((((S.get q) % 256) % 256 : Nat) : Int)) (by rfl) rfl rfl (run_conv_int Tryd.underlying25 Tryd.underlying5 (wrap_u8N _)) ?_
    simp only [Z7,Z0]
    refine wpV_idxs (n := 3) (by rfl) rfl rfl rfl Tryd.underlying35 info5 (by omega) ?_
    simp only [Nat.zero_add]
    simp only [Z7,Z0]
    refine Z14 (hLk _ (fun w80 Sw80 => ?_))
    clear hLk Lk
    simp only [Z1,Z2]
    replace M := M.sees Sw80
    refine Z18 (g := g68) (off := 3) (n := 4) (v := .int .u8 ((((S.get q) % 256) % 256 : Nat) : Int)) (by rfl) (by rfl) (by rfl) (by rfl) (by rfl) (M.t 0 rfl) (by omega) info5 rfl (fun w81 P R T => ?_)
    replace M := M.put1 (j := 3) 0 rfl P R T (Nat.zero_add _).symm
    simp only [Z0] at M
    refine Z9 (Z10 ?_)
    refine hK78 _ _ ?_
    refine Z8 ?_
    refine Z12 (v := .int .u32 ((S.get q : Nat) : Int)) (by rfl) (by rfl) (by rfl) ?_
    simp only [Z7,Z0]
    refine Z11 1 (by rfl) (fun Lk hLk => ?_)
    simp only [Z1,Z2]
    refine Z15 (v := .int .u32 (((S.get q) / 256 : Nat) : Int)) (by rfl) rfl rfl rfl (fun W => nr_quo32 (x := S.get q) (y := 256) (by decide) (S8.get_lt hok _) W) ?_
    simp only [Z7,Z0]
    refine Z14 (hLk _ (fun w83 Sw83 => ?_))
    clear hLk Lk
    simp only [Z1,Z2]
    replace M := M.sees Sw83
    refine Z13 (v := .int .u32 (((S.get q) / 256 : Nat) : Int)) (by rfl) (by rfl) (by rfl) ?_
    simp only [Z7,Z0]
    refine Z9 (Z10 ?_)
    refine hK77 _ _ ?_
    refine Z8 ?_
    refine Z12 (v := .int .i64 4) (by rfl) (by rfl) (by rfl) ?_
    simp only [Z7,Z0]
    refine Z11 1 (by rfl) (fun Lk hLk => ?_)
    simp only [Z1,Z2]
    refine Z15 (v := .int .i64 3) (by rfl) rfl rfl rfl (fun W => run_sub (by decide) W) ?_
    simp only [Z7,Z0]
    refine Z14 (hLk _ (fun w85 Sw85 => ?_))
    clear hLk Lk
    simp only [Z1,Z2]
    replace M := M.sees Sw85
    refine Z13 (v := .int .i64 3) (by rfl) (by rfl) (by rfl) ?_
    simp only [Z7,Z0]
    refine Z9 (Z10 ?_)
    refine Z17 (Q := fun _ _ _ => True) ?_
    rw [rounds_succ]
    refine Z4 (fun K86 hK86 => ?_)
    refine Z4 (fun K87 hK87 => ?_)
    refine Z8 ?_
    refine Z12 (v := .int .i64 3) (by rfl) (by rfl) (by rfl) ?_
    simp only [Z7,Z0]
    refine Z11 1 (by rfl) (fun Lk hLk => ?_)
    simp only [Z1,Z2]
    refine Z15 (v := .bool true) (by rfl) rfl rfl rfl (fun W => run_gtr _ _ _ _ W) ?_
    simp only [Z7,Z0]
    refine Z14 (hLk _ (fun w89 Sw89 => ?_))
    clear hLk Lk
    simp only [Z1,Z2]
    replace M := M.sees Sw89
    refine Z9 (Z10 ?_)
    refine hK87 _ _ ?_
    refine Z5 rfl ?_
    refine wp_skip ?_
    refine hK86 _ _ ?_
    refine Z4 (fun K90 hK90 => ?_)
    refine wp_block ?_
    refine Z4 (fun K91 hK91 => ?_)
    refine Z8 ?_
    refine Z12 (v := .slice (some ⟨g68, 0, none⟩) 4 4) (by rfl) (by rfl) (by rfl) ?_
    simp only [Z7,Z0]
    refine Z12 (v := .int .i64 3) (by rfl) (by rfl) (by rfl) ?_
    simp only [Z7,Z0]
    refine Z11 5 (by rfl) (fun Lk hLk => ?_)
    simp only [Z1,Z2]
    refine Z15 (v := .int .i64 2) (by rfl) rfl rfl rfl (fun W => run_sub (by decide) W) ?_
    simp only [Z7,Z0]
    refine Z16 (v := .int .u32 (((S.get q) / 256 : Nat) : Int)) (by rfl) rfl rfl ?_
    simp only [Z7,Z0]
    refine Z15 (v := .int .u32 ((((S.get q) / 256) % 256 : Nat) : Int)) (by rfl) rfl rfl rfl (fun W => nr_rem32 (x := (S.get q) / 256) (y := 256) (by decide) W) ?_
    simp only [Z7,Z0]
    refine wpV_conv (d := .bool) (e := (((((S.get q) / 256) % 256) % 256 : Nat) : Int)) (by rfl) rfl rfl (run_conv_int Tryd.underlying25 Tryd.underlying5 (wrap_u8N _)) ?_
    simp only [Z7,Z0]
    refine wpV_idxs (n := 2) (by rfl) rfl rfl rfl Tryd.underlying35 info5 (by omega) ?_
    simp only [Nat.zero_add]
    simp only [Z7,Z0]
    refine Z14 (hLk _ (fun w93 Sw93 => ?_))
    clear hLk Lk
    simp only [Z1,Z2]
    replace M := M.sees Sw93
    refine Z18 (g := g68) (off := 2) (n := 4) (v := .int .u8 (((((S.get q) / 256) % 256) % 256 : Nat) : Int)) (by rfl) (by rfl) (by rfl) (by rfl) (by rfl) (M.t 0 rfl) (by omega) info5 rfl (fun w94 P R T => ?_)
    replace M := M.put1 (j := 2) 0 rfl P R T (Nat.zero_add _).symm
    simp only [Z0] at M
    refine Z9 (Z10 ?_)
    refine hK91 _ _ ?_
    refine Z8 ?_
    refine Z12 (v := .int .u32 (((S.get q) / 256 : Nat) : Int)) (by rfl) (by rfl) (by rfl) ?_
    simp only [Z7,Z0]
    refine Z11 1 (by rfl) (fun Lk hLk => ?_)
    simp only [Z1,Z2]
    refine Z15 (v := .int .u32 ((((S.get q) / 256) / 256 : Nat) : Int)) (by rfl) rfl rfl rfl (fun W => nr_quo32 (x := (S.get q) / 256) (y := 256) (by decide) (div_lt32 _ (S8.get_lt hok _)) W) ?_
    simp only [Z7,Z0]
    refine Z14 (hLk _ (fun w96 Sw96 => ?_))
    clear hLk Lk
    simp only [Z1,Z2]
    replace M := M.sees Sw96
    refine Z13 (v := .int .u32 ((((S.get q) / 256) / 256 : Nat) : Int)) (by rfl) (by rfl) (by rfl) ?_
    simp only [Z7,Z0]
    refine Z9 (Z10 ?_)
    refine hK90 _ _ ?_
    refine Z8 ?_
    refine Z12 (v := .int .i64 3) (by rfl) (by rfl) (by rfl) ?_
    simp only [Z7,Z0]
    refine Z11 1 (by rfl) (fun Lk hLk => ?_)
    simp only [Z1,Z2]
    refine Z15 (v := .int .i64 2) (by rfl) rfl rfl rfl (fun W => run_sub (by decide) W) ?_
    simp only [Z7,Z0]
    refine Z14 (hLk _ (fun w98 Sw98 => ?_))
    clear hLk Lk
    simp only [Z1,Z2]
    replace M := M.sees Sw98
    refine Z13 (v := .int .i64 2) (by rfl) (by rfl) (by rfl) ?_
    simp only [Z7,Z0]
    refine Z9 (Z10 ?_)
    refine Z17 (Q := fun _ _ _ => True) ?_
    rw [rounds_succ]
    refine Z4 (fun K99 hK99 => ?_)
    refine Z4 (fun K100 hK100 => ?_)
    refine Z8 ?_
    refine Z12 (v := .int .i64 2) (by rfl) (by rfl) (by rfl) ?_
    simp only [Z7,Z0]
    refine Z11 1 (by rfl) (fun Lk hLk => ?_)
    simp only [Z1,Z2]
    refine Z15 (v := .bool true) (by rfl) rfl rfl rfl (fun W => run_gtr _ _ _ _ W) ?_
    simp only [Z7,Z0]
    refine Z14 (hLk _ (fun w102 Sw102 => ?_))
    clear hLk Lk
    simp only [Z1,Z2]
    replace M := M.sees Sw102
    refine Z9 (Z10 ?_)
    refine hK100 _ _ ?_
    refine Z5 rfl ?_
    refine wp_skip ?_
    refine hK99 _ _ ?_
    refine Z4 (fun K103 hK103 => ?_)
    refine wp_block ?_
    refine Z4 (fun K104 hK104 => ?_)
    refine Z8 ?_
    refine Z12 (v := .slice (some ⟨g68, 0, none⟩) 4 4) (by rfl) (by rfl) (by rfl) ?_
    simp only [Z7,Z0]
    refine Z12 (v := .int .i64 2) (by rfl) (by rfl) (by rfl) ?_
    simp only [Z7,Z0]
    refine Z11 5 (by rfl) (fun Lk hLk => ?_)
    simp only [Z1,Z2]
    refine Z15 (v := .int .i64 1) (by rfl) rfl rfl rfl (fun W => run_sub (by decide) W) ?_
    simp only [Z7,Z0]
    refine Z16 (v := .int .u32 ((((S.get q) / 256) / 256 : Nat) : Int)) (by rfl) rfl rfl ?_
    simp only [Z7,Z0]
    refine Z15 (v := .int .u32 (((((S.get q) / 256) / 256) % 256 : Nat) : Int)) (by rfl) rfl rfl rfl (fun W => nr_rem32 (x := ((S.get q) / 256) / 256) (y := 256) (by decide) W) ?_
    simp only [Z7,Z0]
    refine wpV_conv (d := .bool) (e := ((((((S.get q) / 256) / 256) % 256) % 256 : Nat) : Int)) (by rfl) rfl rfl (run_conv_int Tryd.underlying25 Tryd.underlying5 (wrap_u8N _)) ?_
    simp only [Z7,Z0]
    refine wpV_idxs (n := 1) (by rfl) rfl rfl rfl Tryd.underlying35 info5 (by omega) ?_
    simp only [Nat.zero_add]
    simp only [Z7,Z0]
    refine Z14 (hLk _ (fun w106 Sw106 => ?_))
    clear hLk Lk
    simp only [Z1,Z2]
    replace M := M.sees Sw106
    refine Z18 (g := g68) (off := 1) (n := 4) (v := .int .u8 ((((((S.get q) / 256) / 256) % 256) % 256 : Nat) : Int)) (by rfl) (by rfl) (by rfl) (by rfl) (by rfl) (M.t 0 rfl) (by omega) info5 rfl (fun w107 P R T => ?_)
    replace M := M.put1 (j := 1) 0 rfl P R T (Nat.zero_add _).symm
    simp only [Z0] at M
    refine Z9 (Z10 ?_)
    refine hK104 _ _ ?_
    refine Z8 ?_
    refine Z12 (v := .int .u32 ((((S.get q) / 256) / 256 : Nat) : Int)) (by rfl) (by rfl) (by rfl) ?_
    simp only [Z7,Z0]
    refine Z11 1 (by rfl) (fun Lk hLk => ?_)
    simp only [Z1,Z2]
    refine Z15 (v := .int .u32 (((((S.get q) / 256) / 256) / 256 : Nat) : Int)) (by rfl) rfl rfl rfl (fun W => nr_quo32 (x := ((S.get q) / 256) / 256) (y := 256) (by decide) (div_lt32 _ (div_lt32 _ (S8.get_lt hok _))) W) ?_
    simp only [Z7,Z0]
    refine Z14 (hLk _ (fun w109 Sw109 => ?_))
    clear hLk Lk
    simp only [Z1,Z2]
    replace M := M.sees Sw109
    refine Z13 (v := .int .u32 (((((S.get q) / 256) / 256) / 256 : Nat) : Int)) (by rfl) (by rfl) (by rfl) ?_
    simp only [Z7,Z0]
    refine Z9 (Z10 ?_)
    refine hK103 _ _ ?_
    refine Z8 ?_
    refine Z12 (v := .int .i64 2) (by rfl) (by rfl) (by rfl) ?_
    simp only [Z7,Z0]
    refine Z11 1 (by rfl) (fun Lk hLk => ?_)
    simp only [Z1,Z2]
    refine Z15 (v := .int .i64 1) (by rfl) rfl rfl rfl (fun W => run_sub (by decide) W) ?_
    simp only [Z7,Z0]
    refine Z14 (hLk _ (fun w111 Sw111 => ?_))
    clear hLk Lk
    simp only [Z1,Z2]
    replace M := M.sees Sw111
    refine Z13 (v := .int .i64 1) (by rfl) (by rfl) (by rfl) ?_
    simp only [Z7,Z0]
    refine Z9 (Z10 ?_)
    refine Z17 (Q := fun _ _ _ => True) ?_
    rw [rounds_succ]
    refine Z4 (fun K112 hK112 => ?_)
    refine Z4 (fun K113 hK113 => ?_)
    refine Z8 ?_
    refine Z12 (v := .int .i64 1) (by rfl) (by rfl) (by rfl) ?_
    simp only [Z7,Z0]
    refine Z11 1 (by rfl) (fun Lk hLk => ?_)
    simp only [Z1,Z2]
    refine Z15 (v := .bool true) (by rfl) rfl rfl rfl (fun W => run_gtr _ _ _ _ W) ?_
    simp only [Z7,Z0]
    refine Z14 (hLk _ (fun w115 Sw115 => ?_))
    clear hLk Lk
    simp only [Z1,Z2]
    replace M := M.sees Sw115
    refine Z9 (Z10 ?_)
    refine hK113 _ _ ?_
    refine Z5 rfl ?_
    refine wp_skip ?_
    refine hK112 _ _ ?_
    refine Z4 (fun K116 hK116 => ?_)
    refine wp_block ?_
    refine Z4 (fun K117 hK117 => ?_)
    refine Z8 ?_
    refine Z12 (v := .slice (some ⟨g68, 0, none⟩) 4 4) (by rfl) (by rfl) (by rfl) ?_
    simp only [Z7,Z0]
    refine Z12 (v := .int .i64 1) (by rfl) (by rfl) (by rfl) ?_
    simp only [Z7,Z0]
    refine Z11 5 (by rfl) (fun Lk hLk => ?_)
    simp only [Z1,Z2]
    refine Z15 (v := .int .i64 0) (by rfl) rfl rfl rfl (fun W => run_sub (by decide) W) ?_
    simp only [Z7,Z0]
    refine Z16 (v := .int .u32 (((((S.get q) / 256) / 256) / 256 : Nat) : Int)) (by rfl) rfl rfl ?_
    simp only [Z7,Z0]
    refine Z15 (v := .int .u32 ((((((S.get q) / 256) / 256) / 256) % 256 : Nat) : Int)) (by rfl) rfl rfl rfl (fun W => nr_rem32 (x := (((S.get q) / 256) / 256) / 256) (y := 256) (by decide) W) ?_
    simp only [Z7,Z0]
    refine wpV_conv (d := .bool) (e := (((((((S.get q) / 256) / 256) / 256) % 256) % 256 : Nat) : Int)) (by rfl) rfl rfl (run_conv_int Tryd.underlying25 Tryd.underlying5 (wrap_u8N _)) ?_
    simp only [Z7,Z0]
    refine wpV_idxs (n := 0) (by rfl) rfl rfl rfl Tryd.underlying35 info5 (by omega) ?_
    simp only [Nat.zero_add]
    simp only [Z7,Z0]
    refine Z14 (hLk _ (fun w119 Sw119 => ?_))
    clear hLk Lk
    simp only [Z1,Z2]
    replace M := M.sees Sw119
    refine Z18 (g := g68) (off := 0) (n := 4) (v := .int .u8 (((((((S.get q) / 256) / 256) / 256) % 256) % 256 : Nat) : Int)) (by rfl) (by rfl) (by rfl) (by rfl) (by rfl) (M.t 0 rfl) (by omega) info5 rfl (fun w120 P R T => ?_)
    replace M := M.put1 (j := 0) 0 rfl P R T (Nat.zero_add _).symm
    simp only [Z0] at M
    refine Z9 (Z10 ?_)
    refine hK117 _ _ ?_
    refine Z8 ?_
    refine Z12 (v := .int .u32 (((((S.get q) / 256) / 256) / 256 : Nat) : Int)) (by rfl) (by rfl) (by rfl) ?_
    simp only [Z7,Z0]
    refine Z11 1 (by rfl) (fun Lk hLk => ?_)
    simp only [Z1,Z2]
    refine Z15 (v := .int .u32 ((((((S.get q) / 256) / 256) / 256) / 256 : Nat) : Int)) (by rfl) rfl rfl rfl (fun W => nr_quo32 (x := (((S.get q) / 256) / 256) / 256) (y := 256) (by decide) (div_lt32 _ (div_lt32 _ (div_lt32 _ (S8.get_lt hok _)))) W) ?_
    simp only [Z7,Z0]
    refine Z14 (hLk _ (fun w122 Sw122 => ?_))
    clear hLk Lk
    simp only [Z1,Z2]
    replace M := M.sees Sw122
    refine Z13 (v := .int .u32 ((((((S.get q) / 256) / 256) / 256) / 256 : Nat) : Int)) (by rfl) (by rfl) (by rfl) ?_
    simp only [Z7,Z0]
    refine Z9 (Z10 ?_)
    refine hK116 _ _ ?_
    refine Z8 ?_
    refine Z12 (v := .int .i64 1) (by rfl) (by rfl) (by rfl) ?_
    simp only [Z7,Z0]
    refine Z11 1 (by rfl) (fun Lk hLk => ?_)
    simp only [Z1,Z2]
    refine Z15 (v := .int .i64 0) (by rfl) rfl rfl rfl (fun W => run_sub (by decide) W) ?_
    simp only [Z7,Z0]
    refine Z14 (hLk _ (fun w124 Sw124 => ?_))
    clear hLk Lk
    simp only [Z1,Z2]
    replace M := M.sees Sw124
    refine Z13 (v := .int .i64 0) (by rfl) (by rfl) (by rfl) ?_
    simp only [Z7,Z0]
    refine Z9 (Z10 ?_)
    refine Z17 (Q := fun _ _ _ => True) ?_
    rw [rounds_succ]
    refine Z4 (fun K125 hK125 => ?_)
    refine Z4 (fun K126 hK126 => ?_)
    refine Z8 ?_
    refine Z12 (v := .int .i64 0) (by rfl) (by rfl) (by rfl) ?_
    simp only [Z7,Z0]
    refine Z11 1 (by rfl) (fun Lk hLk => ?_)
    simp only [Z1,Z2]
    refine Z15 (v := .bool false) (by rfl) rfl rfl rfl (fun W => run_gtr _ _ _ _ W) ?_
    simp only [Z7,Z0]
    refine Z14 (hLk _ (fun w128 Sw128 => ?_))
    clear hLk Lk
    simp only [Z1,Z2]
    replace M := M.sees Sw128
    refine Z9 (Z10 ?_)
    refine hK126 _ _ ?_
    refine Z6 rfl ?_
    refine wp_exit ?_
    refine hK70 _ _ ?_
    replace M := M.read1 (cs := [.int .u8 ((S.get q / 256 / 256 / 256 % 256 % 256 : Nat) : Int), .int .u8 ((S.get q / 256 / 256 % 256 % 256 : Nat) : Int), .int .u8 ((S.get q / 256 % 256 % 256 : Nat) : Int), .int .u8 ((S.get q % 256 % 256 : Nat) : Int)]) 0 rfl (show World.rangeAt _ _ _ _ from (M.r 0 0 rfl rfl))
    simp only [Z0] at M
    refine Z8 ?_
    refine Z12 (v := .slice (some ⟨go, 0, none⟩) (4 * q) goc) (by rfl) (by rfl) (by rfl) ?_
    simp only [Z7,Z0]
    refine Z12 (v := .slice (some ⟨g68, 0, none⟩) 4 4) (by rfl) (by rfl) (by rfl) ?_
    simp only [Z7,Z0]
    refine wpL_append (olds := bcells ((outS S).take (4 * q))) (news := [.int .u8 ((S.get q / 256 / 256 / 256 % 256 % 256 : Nat) : Int), .int .u8 ((S.get q / 256 / 256 % 256 % 256 : Nat) : Int), .int .u8 ((S.get q / 256 % 256 % 256 : Nat) : Int), .int .u8 ((S.get q % 256 % 256 : Nat) : Int)]) (z := .int .u8 0) (bytes := 1) (by rfl) (by rfl) (by rfl) (by rfl) Tryd.underlying35 (by kernel_rfl) rfl rfl (by rw [bcells_len, List.length_take, outS_len]; omega) (by rfl) (M.r 5 0 rfl rfl) (M.t 5 rfl) (M.lt 5 rfl) (M.r 0 0 rfl rfl) (by simp [Value.oneCell']) (by omega) (by unfold maxLen; omega) (fun g130 g130c w131 Sw131 Q Cg130 R T L => ?_)
    replace M := M.grow 5 rfl Sw131 Q R T L
    simp only [Z0] at M
    clear Q R T L
    rw [out_four _ hq] at M
    simp only [Z7,Z0]
    refine Z13 (v := .slice (some ⟨g130, 0, none⟩) (4 * q + 4) g130c) (by rfl) (by rfl) (by rfl) ?_
    simp only [Z7,Z0]
    refine Z9 (Z10 ?_)
    refine hK62 _ _ ?_
    refine Z8 ?_
    refine Z11 1 (by rfl) (fun Lk hLk => ?_)
    simp only [Z1,Z2]
    refine Z15 (v := .int .i64 ((q + 1 : Nat) : Int)) (by rfl) rfl rfl rfl (fun W => run_add (by simp only [IntKind.wrap_i64]; omega) W) ?_
    simp only [Z7,Z0]
    refine Z14 (hLk _ (fun w133 Sw133 => ?_))
    clear hLk Lk
    simp only [Z1,Z2]
    replace M := M.sees Sw133
    refine Z12 (v := .int .i64 ((q + 1 : Nat) : Int)) (by rfl) (by rfl) (by rfl) ?_
    simp only [Z7,Z0]
    refine Z9 (Z10 ?_)
    refine Exists.intro _ ⟨?_, (q + 1), g130, g130c, (fun q9 => (#[Z3, Z3, Z3, Z3, Z3, Z3, Z3, Z3, Z3, Z3, .int .u32 ((((((S.get q) / 256) / 256) / 256) / 256 : Nat) : Int), .slice (some ⟨g68, 0, none⟩) 4 4, .int .i64 0, Z3, Z3, Z3, Z3, Z3, Z3, Z3, Z3, Z3, Z3, Z3, Z3, Z3, Z3, Z3, Z3, Z3, Z3, Z3, Z3, Z3, Z3, Z3, Z3, Z3, Z3, Z3, Z3, Z3, Z3, Z3, Z3, Z3, Z3, Z3, Z3, Z3, Z3, Z3, Z3, Z3, .bool true, .int .u32 ((S.get q : Nat) : Int), .slice (some ⟨g68, 0, none⟩) 4 4, .int .i64 0, .bool false, .int .i64 1, .int .i64 0, .slice (some ⟨g68, 0, none⟩) 4 4, .int .i64 1, .int .i64 0, .int .u32 (((((S.get q) / 256) / 256) / 256 : Nat) : Int), .int .u32 ((((((S.get q) / 256) / 256) / 256) % 256 : Nat) : Int), .int .u8 (((((((S.get q) / 256) / 256) / 256) % 256) % 256 : Nat) : Int), .pointer (some ⟨g68, 0, none⟩), .int .u32 (((((S.get q) / 256) / 256) / 256 : Nat) : Int), .int .u32 ((((((S.get q) / 256) / 256) / 256) / 256 : Nat) : Int), .slice (some ⟨go, 0, none⟩) (4 * q) goc, .slice (some ⟨g68, 0, none⟩) 4 4, .slice (some ⟨g130, 0, none⟩) (4 * q + 4) g130c, .int .i64 ((q + 1 : Nat) : Int)] : Array Value).getD q9 Z3), rfl, rfl, (M.pick [1, 2, 3, 4, 5] (by decide) rfl), Cg130, (by omega)⟩
    omega
  ·
   obtain ⟨j, rfl⟩ : ∃ j, i = j + 1 := ⟨i - 1, by have := of_decide_eq_true hc33; omega⟩
   have hj8 : j < 8 := by omega
   rw [show 8 - (j + 1) = 7 - j by omega] at hp; subst hp
   refine Z5 rfl ?_
   refine wp_skip ?_
   refine hK29 _ _ ?_
   refine Z4 (fun K134 hK134 => ?_)
   refine wp_block ?_
   refine Z4 (fun K135 hK135 => ?_)
   refine Z8 ?_
   refine Z12 (v := .slice (some ⟨g22, 0, none⟩) 8 8) (by rfl) (by rfl) (by rfl) ?_
   simp only [Z7,Z0]
   refine Z12 (v := .int .i64 (((j + 1) : Nat) : Int)) (by rfl) (by rfl) (by rfl) ?_
   simp only [Z7,Z0]
   refine Z11 5 (by rfl) (fun Lk hLk => ?_)
   simp only [Z1,Z2]
   refine Z15 (v := .int .i64 ((j : Nat) : Int)) (by rfl) rfl rfl rfl (fun W => run_sub (by simp only [IntKind.wrap_i64]; omega) W) ?_
   simp only [Z7,Z0]
   refine Z16 (v := .int .u64 (((m / 256 ^ (7 - j)) : Nat) : Int)) (by rfl) rfl rfl ?_
   simp only [Z7,Z0]
   refine Z15 (v := .int .u64 ((m / 256 ^ (7 - j) % 256 : Nat) : Int)) (by rfl) rfl rfl rfl (fun W => (by have := nr_rem64 (P := Tryd.prog) (T := 27) (x := m / 256 ^ (7 - j)) (y := 256) (by decide) W; exact this)) ?_
   simp only [Z7,Z0]
   refine wpV_conv (d := .bool) (e := (((m / 256 ^ (7 - j) % 256) % 256 : Nat) : Int)) (by rfl) rfl rfl (run_conv_int Tryd.underlying27 Tryd.underlying5 (wrap_u8N _)) ?_
   simp only [Z7,Z0]
   refine wpV_idxs (n := j) (by rfl) rfl rfl rfl Tryd.underlying35 info5 (by omega) ?_
   simp only [Nat.zero_add]
   simp only [Z7,Z0]
   refine Z14 (hLk _ (fun w137 Sw137 => ?_))
   clear hLk Lk
   simp only [Z1,Z2]
   replace M := M.sees Sw137
   refine Z18 (g := g22) (off := j) (n := 8) (v := .int .u8 (((m / 256 ^ (7 - j) % 256) % 256 : Nat) : Int)) (by rfl) (by rfl) (by rfl) (by rfl) (by rfl) (M.t 0 rfl) (by omega) info5 rfl (fun w138 P R T => ?_)
   replace M := M.put1 (j := j) 0 rfl P R T (Nat.zero_add _).symm
   simp only [Z0] at M
   rw [row_step _ hj8] at M
   refine Z9 (Z10 ?_)
   refine hK135 _ _ ?_
   refine Z8 ?_
   refine Z12 (v := .int .u64 (((m / 256 ^ (7 - j)) : Nat) : Int)) (by rfl) (by rfl) (by rfl) ?_
   simp only [Z7,Z0]
   refine Z11 1 (by rfl) (fun Lk hLk => ?_)
   simp only [Z1,Z2]
   refine Z15 (v := .int .u64 ((m / 256 ^ (8 - j) : Nat) : Int)) (by rfl) rfl rfl rfl (fun W => (by have := nr_quo64 (P := Tryd.prog) (T := 27) (x := m / 256 ^ (7 - j)) (y := 256) (by decide) (div_lt64 _ hm64) W; rw [div_step _ hj8] at this; exact this)) ?_
   simp only [Z7,Z0]
   refine Z14 (hLk _ (fun w140 Sw140 => ?_))
   clear hLk Lk
   simp only [Z1,Z2]
   replace M := M.sees Sw140
   refine Z13 (v := .int .u64 ((m / 256 ^ (8 - j) : Nat) : Int)) (by rfl) (by rfl) (by rfl) ?_
   simp only [Z7,Z0]
   refine Z9 (Z10 ?_)
   refine hK134 _ _ ?_
   refine Z8 ?_
   refine Z12 (v := .int .i64 (((j + 1) : Nat) : Int)) (by rfl) (by rfl) (by rfl) ?_
   simp only [Z7,Z0]
   refine Z11 1 (by rfl) (fun Lk hLk => ?_)
   simp only [Z1,Z2]
   refine Z15 (v := .int .i64 ((j : Nat) : Int)) (by rfl) rfl rfl rfl (fun W => run_sub (by simp only [IntKind.wrap_i64]; omega) W) ?_
   simp only [Z7,Z0]
   refine Z14 (hLk _ (fun w142 Sw142 => ?_))
   clear hLk Lk
   simp only [Z1,Z2]
   replace M := M.sees Sw142
   refine Z13 (v := .int .i64 ((j : Nat) : Int)) (by rfl) (by rfl) (by rfl) ?_
   simp only [Z7,Z0]
   refine Z9 (Z10 ?_)
   refine Exists.intro _ ⟨?_, j, (m / 256 ^ (8 - j)), (fun q9 => (#[Z3, Z3, Z3, Z3, Z3, Z3, Z3, Z3, Z3, Z3, Z3, Z3, Z3, Z3, Z3, Z3, Z3, Z3, Z3, Z3, Z3, Z3, Z3, Z3, Z3, Z3, Z3, Z3, Z3, Z3, .int .i64 (((j + 1) : Nat) : Int), .bool true, .int .i64 (((j + 1) : Nat) : Int), .int .i64 ((j : Nat) : Int), .slice (some ⟨g22, 0, none⟩) 8 8, .int .i64 (((j + 1) : Nat) : Int), .int .i64 ((j : Nat) : Int), .int .u64 (((m / 256 ^ (7 - j)) : Nat) : Int), .int .u64 ((m / 256 ^ (7 - j) % 256 : Nat) : Int), .int .u8 (((m / 256 ^ (7 - j) % 256) % 256 : Nat) : Int), .pointer (some ⟨g22, j, none⟩), .int .u64 (((m / 256 ^ (7 - j)) : Nat) : Int), .int .u64 ((m / 256 ^ (8 - j) : Nat) : Int)] : Array Value).getD q9 Z3), rfl, rfl, M, (by omega), rfl⟩
   omega
 ·
  have hkz : k ≠ z := fun e => absurd ((zeros_iff hb hz hk4).2 e) (of_decide_eq_true hc16)
  refine Z5 rfl ?_
  refine wp_skip ?_
  refine hK12 _ _ ?_
  refine wp_block ?_
  refine Z8 ?_
  refine Z12 (v := .slice (some ⟨gb, 0, none⟩) (1 + k) gbc) (by rfl) (by rfl) (by rfl) ?_
  simp only [Z7,Z0]
  refine wpL_rowN (vs := [.int .u8 0]) (z := .int .u8 0) (bytes := 1) (by rfl) (by rfl) Tryd.underlying35 (by kernel_rfl) (by decide) (by kernel_rfl) (fun g144 w145 Sw145 Hg144 Bg144 => ?_)
  replace M := ((M.sees Sw145).add (N := 1) (cs := [.int .u8 0]) (M.ge Hg144) (M.fresh Hg144) Bg144 rfl)
  clear Bg144
  simp only [Z7,Z0]
  refine wpL_append (olds := bcells (128 :: List.replicate k 0)) (news := [.int .u8 0]) (z := .int .u8 0) (bytes := 1) (by rfl) (by rfl) (by rfl) (by rfl) Tryd.underlying35 (by kernel_rfl) rfl rfl (by rw [bcells_len, List.length_cons, List.length_replicate, Nat.add_comm]) (by rfl) (M.r 2 0 rfl rfl) (M.t 2 rfl) (M.lt 2 rfl) (M.r 0 0 rfl rfl) (by simp [Value.oneCell']) (by omega) (by unfold maxLen; omega) (fun g146 g146c w147 Sw147 Q Cg146 R T L => ?_)
  replace M := M.grow 2 rfl Sw147 Q R T L
  simp only [Z0] at M
  clear Q R T L
  rw [zero_snoc] at M
  simp only [Z7,Z0]
  refine Z13 (v := .slice (some ⟨g146, 0, none⟩) (1 + k + 1) g146c) (by rfl) (by rfl) (by rfl) ?_
  simp only [Z7,Z0]
  refine Z9 (Z10 ?_)
  refine Exists.intro _ ⟨?_, (k + 1), g146, g146c, (fun q9 => (#[Z3, Z3, Z3, Z3, Z3, Z3, Z3, Z3, Z3, Z3, Z3, Z3, Z3, Z3, .pointer (some ⟨g3, 8, none⟩), .string (bs b), .int .i64 ((b.length : Nat) : Int), .slice (some ⟨gb, 0, none⟩) (1 + k) gbc, .int .i64 ((1 + k : Nat) : Int), .int .i64 ((b.length + 1 + k : Nat) : Int), .int .i64 ((b.length + 1 + k + 8 : Nat) : Int), .int .i64 (((b.length + 1 + k + 8) % 64 : Nat) : Int), .bool true, .slice (some ⟨gb, 0, none⟩) (1 + k) gbc, .slice (some ⟨g144, 0, none⟩) 1 1, .slice (some ⟨g146, 0, none⟩) (1 + k + 1) g146c] : Array Value).getD q9 Z3), rfl, rfl, (M.pick [1, 2] (by decide) rfl), Cg146, (by omega)⟩
  omega
theorem rwrite0_c {l : List UInt8} {w : World} (hl : l.length ≤ 9223372036854775744) :
  Calls Tryd.prog 35 #[.agg ([.int .u32 ((H0.a : Nat) : Int), .int .u32 ((H0.b : Nat) : Int), .int .u32 ((H0.c : Nat) : Int), .int .u32 ((H0.d : Nat) : Int), .int .u32 ((H0.e : Nat) : Int), .int .u32 ((H0.f : Nat) : Int), .int .u32 ((H0.g : Nat) : Int), .int .u32 ((H0.h : Nat) : Int)] ++ [.string (bs ([]))] ++ [.int .u64 ((0 : Nat) : Int)] : List Value).toArray, .string (bs l)] w fun e w' => e = .returned (.agg ([.int .u32 (((takeH H0 l).a : Nat) : Int), .int .u32 (((takeH H0 l).b : Nat) : Int), .int .u32 (((takeH H0 l).c : Nat) : Int), .int .u32 (((takeH H0 l).d : Nat) : Int), .int .u32 (((takeH H0 l).e : Nat) : Int), .int .u32 (((takeH H0 l).f : Nat) : Int), .int .u32 (((takeH H0 l).g : Nat) : Int), .int .u32 (((takeH H0 l).h : Nat) : Int)] ++ [.string (bs (takeR l))] ++ [.int .u64 (((l.length % 18446744073709551616) : Nat) : Int)] : List Value).toArray) ∧ Below w.heap.size w w' := by
 have h := rwrite_c (h := H0) (b := []) (l := l) (n := 0) (w := w) H0_ok (by decide) hl
 simp only [List.nil_append, Nat.zero_add] at h
 exact h
set_option maxHeartbeats 1000000 in
theorem rsum_c {l : List UInt8} {w : World} (hl : l.length ≤ 9223372036854775744) :
  Calls Tryd.prog 21 #[.string (bs l)] w fun e w' => e = .returned (.string (bs (sha l))) ∧ Below w.heap.size w w' := by
 go_enter Tryd.func21, Tryd.ntmps21
 have M := Mem.start w
 refine Z4 (fun K1 hK1 => ?_)
 refine Z8 ?_
 refine Z13 (v := .string (bs ([]))) (by rfl) (by rfl) (by rfl) ?_
 simp only [Z7,Z0]
 refine Z9 (Z10 ?_)
 refine hK1 _ _ ?_
 refine Z4 (fun K3 hK3 => ?_)
 refine Z8 ?_
 refine Z11 4 (by rfl) (fun Lk hLk => ?_)
 simp only [Z1,Z2]
 refine Z20 (v := .agg ([.int .u32 ((H0.a : Nat) : Int), .int .u32 ((H0.b : Nat) : Int), .int .u32 ((H0.c : Nat) : Int), .int .u32 ((H0.d : Nat) : Int), .int .u32 ((H0.e : Nat) : Int), .int .u32 ((H0.f : Nat) : Int), .int .u32 ((H0.g : Nat) : Int), .int .u32 ((H0.h : Nat) : Int)] ++ [.string (bs [])] ++ [.int .u64 ((0 : Nat) : Int)] : List Value).toArray) (args := #[]) (by rfl) rfl Tryd.func23 (by kernel_rfl) (by kernel_rfl) rfl (fun W hW => rnew_c) ?_
 simp only [Z7,Z0]
 refine Z16 (v := .string (bs l)) (by rfl) rfl rfl ?_
 simp only [Z7,Z0]
 refine Z20 (v := .agg ([.int .u32 (((takeH H0 l).a : Nat) : Int), .int .u32 (((takeH H0 l).b : Nat) : Int), .int .u32 (((takeH H0 l).c : Nat) : Int), .int .u32 (((takeH H0 l).d : Nat) : Int), .int .u32 (((takeH H0 l).e : Nat) : Int), .int .u32 (((takeH H0 l).f : Nat) : Int), .int .u32 (((takeH H0 l).g : Nat) : Int), .int .u32 (((takeH H0 l).h : Nat) : Int)] ++ [.string (bs (takeR l))] ++ [.int .u64 (((l.length % 18446744073709551616) : Nat) : Int)] : List Value).toArray) (args := #[.agg ([.int .u32 ((H0.a : Nat) : Int), .int .u32 ((H0.b : Nat) : Int), .int .u32 ((H0.c : Nat) : Int), .int .u32 ((H0.d : Nat) : Int), .int .u32 ((H0.e : Nat) : Int), .int .u32 ((H0.f : Nat) : Int), .int .u32 ((H0.g : Nat) : Int), .int .u32 ((H0.h : Nat) : Int)] ++ [.string (bs [])] ++ [.int .u64 ((0 : Nat) : Int)] : List Value).toArray, .string (bs l)]) (by rfl) rfl Tryd.func35 (by kernel_rfl) (by kernel_rfl) rfl (fun W hW => by with_reducible exact rwrite0_c hl) ?_
 simp only [Z7,Z0]
 refine Z20 (v := .string (bs (endL (takeH H0 l) (takeR l) (l.length % 18446744073709551616)))) (args := #[.agg ([.int .u32 (((takeH H0 l).a : Nat) : Int), .int .u32 (((takeH H0 l).b : Nat) : Int), .int .u32 (((takeH H0 l).c : Nat) : Int), .int .u32 (((takeH H0 l).d : Nat) : Int), .int .u32 (((takeH H0 l).e : Nat) : Int), .int .u32 (((takeH H0 l).f : Nat) : Int), .int .u32 (((takeH H0 l).g : Nat) : Int), .int .u32 (((takeH H0 l).h : Nat) : Int)] ++ [.string (bs (takeR l))] ++ [.int .u64 (((l.length % 18446744073709551616) : Nat) : Int)] : List Value).toArray]) (by rfl) rfl Tryd.func34 (by kernel_rfl) (by kernel_rfl) rfl (fun W hW => by with_reducible exact rend_c (h := (takeH H0 l)) (b := (takeR l)) (n := (l.length % 18446744073709551616)) (takeH_ok _ _ _ (Nat.le_refl _) H0_ok) (takeR_len _)) ?_
 simp only [Z7,Z0]
 refine Z14 (hLk _ (fun w5 Sw5 => ?_))
 clear hLk Lk
 simp only [Z1,Z2]
 replace M := M.sees Sw5
 refine Z13 (v := .string (bs (endL (takeH H0 l) (takeR l) (l.length % 18446744073709551616)))) (by rfl) (by rfl) (by rfl) ?_
 simp only [Z7,Z0]
 refine Z9 (Z10 ?_)
 refine hK3 _ _ ?_
 refine wp_ret ?_
 repeat (first | with_reducible refine then_ret ?_ | with_reducible refine inblock_ret ?_)
 refine bodyPost_ret (v := .string (bs (endL (takeH H0 l) (takeR l) (l.length % 18446744073709551616)))) (res1 rfl (.tmp (by rfl))) rfl ?_
 have BE := M.below
 exact ⟨rfl, BE⟩
end Go.Proofs.Yb

namespace Go.Proofs.Yb
open Go Go.RowKit Go.Proofs.Num
open List renaming set → Z0, take → Z1, drop → Z2
open Go renaming undef → Z3, wp_seq_k → Z4, wp_cond_true → Z5, wp_cond_false → Z6
open Go.Proofs.Num renaming putT → Z7, wp_region_seq → Z8, wpL_nil → Z9, no_panic → Z10, wpL_chunk → Z11, wpL_move → Z12, wpL_assign → Z13, wpV_nil → Z14, wpV_bin → Z15, wpV_move → Z16, then_normal → Z17, wpL_store1 → Z18, wpV_val → Z19, wpV_callf → Z20
set_option maxHeartbeats 1000000 in
theorem rnode_c {a b : List UInt8} {w : World} (ha : a.length ≤ 4611686018427380000) (hb : b.length ≤ 4611686018427380000) :
  Calls Tryd.prog 41 #[.string (bs a), .string (bs b)] w fun e w' => e = .returned (.string (bs (nodeS a b))) ∧ Below w.heap.size w w' := by
 go_enter Tryd.func41, Tryd.ntmps41
 have M := Mem.start w
 refine Z4 (fun K1 hK1 => ?_)
 refine Z8 ?_
 refine Z13 (v := .string (bs ([]))) (by rfl) (by rfl) (by rfl) ?_
 simp only [Z7,Z0]
 refine Z9 (Z10 ?_)
 refine hK1 _ _ ?_
 refine Z4 (fun K3 hK3 => ?_)
 refine Z8 ?_
 refine Z12 (v := .string (bs a)) (by rfl) (by rfl) (by rfl) ?_
 simp only [Z7,Z0]
 refine Z11 4 (by rfl) (fun Lk hLk => ?_)
 simp only [Z1,Z2]
 refine wpV_binS (v := .string (bs (([1]) ++ a))) (by rfl) rfl rfl rfl (run_add_bs _ _ _ (by simp; omega)) ?_
 simp only [Z7,Z0]
 refine Z16 (v := .string (bs b)) (by rfl) rfl rfl ?_
 simp only [Z7,Z0]
 refine wpV_binS (v := .string (bs ((([1]) ++ a) ++ b))) (by rfl) rfl rfl rfl (run_add_bs _ _ _ (by simp; omega)) ?_
 simp only [Z7,Z0]
 refine Z20 (v := .string (bs (sha ((([1]) ++ a) ++ b)))) (args := #[.string (bs ((([1]) ++ a) ++ b))]) (by rfl) rfl Tryd.func21 (by kernel_rfl) (by kernel_rfl) rfl (fun W hW => rsum_c (l := (([1]) ++ a) ++ b) (by simp; omega)) ?_
 simp only [Z7,Z0]
 refine Z14 (hLk _ (fun w5 Sw5 => ?_))
 clear hLk Lk
 simp only [Z1,Z2]
 replace M := M.sees Sw5
 refine Z13 (v := .string (bs (sha ((([1]) ++ a) ++ b)))) (by rfl) (by rfl) (by rfl) ?_
 simp only [Z7,Z0]
 refine Z9 (Z10 ?_)
 refine hK3 _ _ ?_
 refine wp_ret ?_
 repeat (first | with_reducible refine then_ret ?_ | with_reducible refine inblock_ret ?_)
 refine bodyPost_ret (v := .string (bs (sha ((([1]) ++ a) ++ b)))) (res1 rfl (.tmp (by rfl))) rfl ?_
 have BE := M.below
 exact ⟨rfl, BE⟩
set_option maxHeartbeats 1000000 in
theorem rsplit_c {n : Nat} {w : World} (h2 : 2 ≤ n) (hn : n ≤ 4611686018427387904) :
  Calls Tryd.prog 54 #[.int .i64 ((n : Nat) : Int)] w fun e w' => e = .returned (.int .i64 ((splitN n : Nat) : Int)) ∧ Below w.heap.size w w' := by
 go_enter Tryd.func54, Tryd.ntmps54
 have M := Mem.start w
 refine Z4 (fun K1 hK1 => ?_)
 refine Z8 ?_
 refine Z13 (v := .int .i64 0) (by rfl) (by rfl) (by rfl) ?_
 simp only [Z7,Z0]
 refine Z9 (Z10 ?_)
 refine hK1 _ _ ?_
 refine Z4 (fun K3 hK3 => ?_)
 refine Z8 ?_
 refine Z13 (v := .int .i64 1) (by rfl) (by rfl) (by rfl) ?_
 simp only [Z7,Z0]
 refine Z9 (Z10 ?_)
 refine hK3 _ _ ?_
 refine Z4 (fun K5 hK5 => ?_)
 refine wp_block ?_
 refine wp_loop_ghost (fun n9 a9 W9 => ∃ (k : Nat) (j : Nat) (u6 : Nat → Value), n9 = n - k ∧ a9 = { tmps := #[.int .i64 ((n : Nat) : Int), Z3, .int .i64 0, .int .i64 ((k : Nat) : Int), u6 4, u6 5, u6 6, u6 7, u6 8, u6 9, Z3], defers := [] } ∧ Mem [] w W9 [] ∧ (k = 2 ^ j) ∧ (k < n)) (n - (1)) ?_ (fun n9 a9 W9 hI => ?_)
 ·
  exact ⟨1, 0, (fun q9 => (#[Z3, Z3, Z3, Z3, Z3, Z3, Z3, Z3, Z3, Z3] : Array Value).getD q9 Z3), rfl, rfl, M, rfl, (by omega)⟩
 clear M
 obtain ⟨k, j, u6, rfl, rfl, M, hk, hkn⟩ := hI
 obtain ⟨w7, rfl⟩ : ∃ W8, W8 = W9 := ⟨_, rfl⟩
 have hkp : 0 < k := hk ▸ Nat.two_pow_pos j
 refine Z4 (fun K8 hK8 => ?_)
 refine Z4 (fun K9 hK9 => ?_)
 refine Z8 ?_
 refine Z12 (v := .int .i64 ((k : Nat) : Int)) (by rfl) (by rfl) (by rfl) ?_
 simp only [Z7,Z0]
 refine Z11 3 (by rfl) (fun Lk hLk => ?_)
 simp only [Z1,Z2]
 refine Z15 (v := .int .i64 ((2 * k : Nat) : Int)) (by rfl) rfl rfl rfl (fun W => run_mul (by simp only [IntKind.wrap_i64]; omega) W) ?_
 simp only [Z7,Z0]
 refine Z16 (v := .int .i64 ((n : Nat) : Int)) (by rfl) rfl rfl ?_
 simp only [Z7,Z0]
 refine Z15 (v := .bool (decide (2 * k < n))) (by rfl) rfl rfl rfl (fun W => run_lssN (2 * k) n _ _ W) ?_
 simp only [Z7,Z0]
 refine Z14 (hLk _ (fun w11 Sw11 => ?_))
 clear hLk Lk
 simp only [Z1,Z2]
 replace M := M.sees Sw11
 refine Z9 (Z10 ?_)
 refine hK9 _ _ ?_
 cases hc12 : (decide (2 * k < n))
 ·
  have h2k : ¬ 2 * k < n := of_decide_eq_false hc12
  refine Z6 rfl ?_
  refine wp_exit ?_
  refine hK5 _ _ ?_
  refine Z4 (fun K13 hK13 => ?_)
  refine Z8 ?_
  refine Z12 (v := .int .i64 ((k : Nat) : Int)) (by rfl) (by rfl) (by rfl) ?_
  simp only [Z7,Z0]
  refine Z13 (v := .int .i64 ((k : Nat) : Int)) (by rfl) (by rfl) (by rfl) ?_
  simp only [Z7,Z0]
  refine Z9 (Z10 ?_)
  refine hK13 _ _ ?_
  refine wp_ret ?_
  repeat (first | with_reducible refine then_ret ?_ | with_reducible refine inblock_ret ?_)
  refine bodyPost_ret (v := .int .i64 ((k : Nat) : Int)) (res1 rfl (.tmp (by rfl))) rfl ?_
  have BE := M.below
  exact ⟨by rw [splitN_of (j := j) (by omega) (by omega), hk], BE⟩
 ·
  have h2k : 2 * k < n := of_decide_eq_true hc12
  refine Z5 rfl ?_
  refine wp_skip ?_
  refine hK8 _ _ ?_
  refine wp_block ?_
  refine Z8 ?_
  refine Z12 (v := .int .i64 ((k : Nat) : Int)) (by rfl) (by rfl) (by rfl) ?_
  simp only [Z7,Z0]
  refine Z11 1 (by rfl) (fun Lk hLk => ?_)
  simp only [Z1,Z2]
  refine Z15 (v := .int .i64 ((2 * k : Nat) : Int)) (by rfl) rfl rfl rfl (fun W => run_mul (by simp only [IntKind.wrap_i64]; omega) W) ?_
  simp only [Z7,Z0]
  refine Z14 (hLk _ (fun w16 Sw16 => ?_))
  clear hLk Lk
  simp only [Z1,Z2]
  replace M := M.sees Sw16
  refine Z13 (v := .int .i64 ((2 * k : Nat) : Int)) (by rfl) (by rfl) (by rfl) ?_
  simp only [Z7,Z0]
  refine Z9 (Z10 ?_)
  refine Exists.intro _ ⟨?_, (2 * k), (j + 1), (fun q9 => (#[Z3, Z3, Z3, Z3, .int .i64 ((k : Nat) : Int), .int .i64 ((2 * k : Nat) : Int), .int .i64 ((n : Nat) : Int), .bool true, .int .i64 ((k : Nat) : Int), .int .i64 ((2 * k : Nat) : Int)] : Array Value).getD q9 Z3), rfl, rfl, M, (by rw [hk, Nat.pow_succ, Nat.mul_comm]), h2k⟩
  omega
end Go.Proofs.Yb

