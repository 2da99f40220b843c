import Derived.WalkKit
import Derived.WalkSpells
import Derived.Laws.Pointers
import Derived.RowKit3
import Derived.Below
import Derived.Outline
import Derived.LoopN
import Derived.Lib.Hide
import Derived.Handy
import Derived.Laws.Bits64b
import Derived.Test.YtpgpjoldelobdaaDoorEdD
import Derived.Test.YtpgpjoldelobdaaDoorHexA
import Derived.Test.YtpgpjoldelobdaaDoorSq3
import Derived.Test.YtpgpjoldelobdaaDoorSq4
import Derived.Test.YtpgpjoldelobdaaDoorNumG
import Derived.Test.YtpgpjoldelobdaaDoorAdds2
set_option linter.unusedSimpArgs false
set_option linter.unusedVariables false
namespace Go.Proofs.Yc
open Go Go.RowKit Go.Proofs.Num
open List renaming set → Z0, take → Z1, drop → Z2
open Go renaming undef → Z3, wp_seq_k → Z4, wp_cond_true → Z5, wp_cond_false → Z6
open Go.Proofs.Num renaming putT → Z7, wp_region_seq → Z8, wpL_nil → Z9, no_panic → Z10, wpL_chunk → Z11, wpL_move → Z12, wpL_assign → Z13, wpV_nil → Z14, wpV_bin → Z15, wpV_move → Z16, wpV_callf → Z20
attribute [local irreducible] wpV wpN wpList
open Go.Proofs.Ya
set_option maxHeartbeats 2000000 in
theorem hex_c {l : List UInt8} {w : World} (hl : l.length ≤ 1048576) :
  Calls Tryd.prog 58 #[.string (bs l)] w fun e w' => e = .returned (.string (bs (hexL l))) ∧ Below w.heap.size w w' := by
 go_enter Tryd.func58, Tryd.ntmps58
 have M := Mem.start w
 refine Z4 (fun K1 hK1 => ?_)
 refine Z8 ?_
 refine Z13 (v := .string (bs ([]))) (by rfl) (by rfl) (by rfl) ?_
 simp only [Z7,Z0]
 refine Z9 (Z10 ?_)
 refine hK1 _ _ ?_
 refine Z4 (fun K3 hK3 => ?_)
 refine Z8 ?_
 refine wpL_var (t := 107) (cs := [.pointer none, .slice none 0 0]) (by rfl) (fun W => ?_) (fun g5 w4 SB HB BB => ?_)
 ·
  go_simp
 have IB : Lib.IsBuilder 107 5 w.heap.size g5 [] w4 := .inl ⟨HB, _, BB, World.ownsRow_nil _ _ _ _, by simp [Value.ownBlock]⟩
 have HB9 := SB.2.2.size
 have hsz := Nat.le_refl w.heap.size
 have hl9 : ∀ b9 ∈ ([] : List Bk), b9.g < w.heap.size := fun b9 hb9 => nomatch hb9
 replace M := M.sees SB
 simp only [Z7,Z0]
 refine Z9 (Z10 ?_)
 refine hK3 _ _ ?_
 refine Z4 (fun K6 hK6 => ?_)
 refine Z4 (fun K7 hK7 => ?_)
 refine Z8 ?_
 refine Z12 (v := .string (bs l)) (by rfl) (by rfl) (by rfl) ?_
 simp only [Z7,Z0]
 refine Z11 1 (by rfl) (fun Lk hLk => ?_)
 simp only [Z1,Z2]
 refine wpV_lenS (by rfl) rfl rfl rfl Tryd.underlying9 ?_
 simp only [Z7,Z0]
 refine Z14 (hLk _ (fun w9 Sw9 => ?_))
 clear hLk Lk
 simp only [Z1,Z2]
 replace M := M.sees Sw9
 replace IB := isB_sees IB Sw9; replace HB9 := Nat.le_trans HB9 Sw9.2.2.size
 refine Z12 (v := .int .i64 0) (by rfl) (by rfl) (by rfl) ?_
 simp only [Z7,Z0]
 refine Z9 (Z10 ?_)
 refine hK7 _ _ ?_
 refine wp_block ?_
 refine wp_loop_ghost (fun n9 a9 W9 => ∃ (i : Nat) (u10 : Nat → Value), n9 = 2 * (l.length - i) ∧ a9 = { tmps := #[.string (bs l), Z3, .string (bs ([])), .pointer (some ⟨g5, 0, none⟩), u10 4, .string (bs l), .int .i64 ((l.length : Nat) : Int), .int .i64 ((i : Nat) : Int), u10 8, u10 9, u10 10, u10 11, u10 12, u10 13, u10 14, u10 15, u10 16, u10 17, u10 18, u10 19, u10 20, u10 21, u10 22, Z3], defers := [] } ∧ Mem [] w W9 [] ∧ (i ≤ l.length) ∧ (Lib.IsBuilder 107 5 w.heap.size g5 (Lib.byteCells (hexL (l.take i))) W9) ∧ (w.heap.size ≤ W9.heap.size)) (2 * (l.length - (0))) ?_ (fun n9 a9 W9 hI => ?_)
 ·
  exact ⟨0, (fun q9 => (#[Z3, Z3, Z3, Z3, Z3, Z3, Z3, Z3, Z3, Z3, Z3, Z3, Z3, Z3, Z3, Z3, Z3, Z3, Z3, Z3, Z3, Z3, Z3] : Array Value).getD q9 Z3), rfl, rfl, M, (Nat.zero_le _), IB, HB9⟩
 clear M
 obtain ⟨i, u10, rfl, rfl, M, hi4, IB, HB9⟩ := hI
 obtain ⟨w11, rfl⟩ : ∃ W8, W8 = W9 := ⟨_, rfl⟩
 refine Z4 (fun K12 hK12 => ?_)
 refine Z8 ?_
 refine Z11 1 (by rfl) (fun Lk hLk => ?_)
 simp only [Z1,Z2]
 refine Z15 (v := .bool (decide (i < l.length))) (by rfl) rfl rfl rfl (fun W => run_lssN i l.length _ _ W) ?_
 simp only [Z7,Z0]
 refine Z14 (hLk _ (fun w14 Sw14 => ?_))
 clear hLk Lk
 simp only [Z1,Z2]
 replace M := M.sees Sw14
 replace IB := isB_sees IB Sw14; replace HB9 := Nat.le_trans HB9 Sw14.2.2.size
 refine Z9 (Z10 ?_)
 refine hK12 _ _ ?_
 refine Z4 (fun K15 hK15 => ?_)
 cases hc16 : (decide (i < l.length))
 ·
  have ei : i = l.length := by have := of_decide_eq_false hc16; omega
  subst ei
  refine Z6 rfl ?_
  refine wp_exit ?_
  refine hK6 _ _ ?_
  refine Z4 (fun K17 hK17 => ?_)
  refine Z8 ?_
  refine wpL_callM (f := 71) (args := #[.pointer (some ⟨g5, 0, none⟩)]) (R := fun v9 W9 => v9 = .string (bs (hexL l)) ∧ Below w.heap.size w14 W9) (by rfl) (by rfl) rfl Tryd.func71 (by kernel_rfl) (by kernel_rfl) ((Tryd.Builder_String_any w.heap.size g5 (hexL l) w14 (by rw [List.take_length] at IB; exact IB) HB9).mono fun e W9 h => ⟨_, h.1, rfl, h.2⟩) (fun v9 w19 h9 => ?_)
  obtain ⟨rfl, hBw⟩ := h9
  replace M := M.belowB hBw hsz hl9
  simp only [Z7,Z0]
  refine Z13 (v := .string (bs (hexL l))) (by rfl) (by rfl) (by rfl) ?_
  simp only [Z7,Z0]
  refine Z9 (Z10 ?_)
  refine hK17 _ _ ?_
  refine wp_ret ?_
  repeat (first | with_reducible refine then_ret ?_ | with_reducible refine inblock_ret ?_)
  refine bodyPost_ret (v := .string (bs (hexL l))) (res1 rfl (.tmp (by rfl))) rfl ?_
  have BE := M.below
  exact ⟨rfl, M.below⟩
 ·
  have hi : i < l.length := of_decide_eq_true hc16
  have hb9 := byteN_lt l i
  refine Z5 rfl ?_
  refine wp_skip ?_
  refine hK15 _ _ ?_
  refine Z4 (fun K20 hK20 => ?_)
  refine wp_block ?_
  refine Z4 (fun K21 hK21 => ?_)
  refine Z8 ?_
  refine Z12 (v := .int .i64 ((i : Nat) : Int)) (by rfl) (by rfl) (by rfl) ?_
  simp only [Z7,Z0]
  refine Z13 (v := .int .i64 ((i : Nat) : Int)) (by rfl) (by rfl) (by rfl) ?_
  simp only [Z7,Z0]
  refine Z9 (Z10 ?_)
  refine hK21 _ _ ?_
  refine Z4 (fun K23 hK23 => ?_)
  refine Z8 ?_
  refine Z12 (v := .string (bs l)) (by rfl) (by rfl) (by rfl) ?_
  simp only [Z7,Z0]
  refine Z12 (v := .int .i64 ((i : Nat) : Int)) (by rfl) (by rfl) (by rfl) ?_
  simp only [Z7,Z0]
  refine Z11 3 (by rfl) (fun Lk hLk => ?_)
  simp only [Z1,Z2]
  refine wpV_indexb (n := i) (by omega) (by rfl) rfl rfl rfl Tryd.underlying9 ?_
  simp only [Z7,Z0]
  refine Z15 (v := .int .u8 ((byteN l i / 16 : Nat) : Int)) (by rfl) rfl rfl rfl (fun W => run_shr (n := 4) (by decide) (by rfl) W) ?_
  simp only [Z7,Z0]
  refine wpV_indexb (n := byteN l i / 16) (show _ < 16 by omega) (by rfl) rfl rfl rfl Tryd.underlying9 ?_
  simp only [Z7,Z0]
  refine Z14 (hLk _ (fun w25 Sw25 => ?_))
  clear hLk Lk
  simp only [Z1,Z2]
  replace M := M.sees Sw25
  replace IB := isB_sees IB Sw25; replace HB9 := Nat.le_trans HB9 Sw25.2.2.size
  refine wpL_callM (f := 99) (args := #[.pointer (some ⟨g5, 0, none⟩), .int .u8 ((byteN digL (byteN l i / 16) : Nat) : Int)]) (R := fun v9 W9 => v9 = .nilIface ∧ Lib.IsBuilder 107 5 w.heap.size g5 ((Lib.byteCells (hexL (l.take i))) ++ [.int .u8 ((byteN digL (byteN l i / 16) : Nat) : Int)]) W9 ∧ Below w.heap.size w25 W9) (by rfl) (by rfl) rfl Tryd.func99 (by kernel_rfl) (by kernel_rfl) ((writeByte_c w.heap.size g5 _ _ w25 IB (by simp only [Lib.byteCells_length, List.length_append, hexL_len, List.length_take, List.length_cons, List.length_nil]; omega) HB9).mono fun e W9 h => ⟨_, h.1, rfl, .inr h.2.1, h.2.2⟩) (fun v9 w26 h9 => ?_)
  obtain ⟨rfl, IB2, hBw⟩ := h9
  replace IB := IB2; clear IB2
  replace M := M.belowB hBw hsz hl9
  replace HB9 := Nat.le_trans HB9 hBw.size
  simp only [Z7,Z0]
  refine Z9 (Z10 ?_)
  refine hK23 _ _ ?_
  refine Z8 ?_
  refine Z12 (v := .string (bs l)) (by rfl) (by rfl) (by rfl) ?_
  simp only [Z7,Z0]
  refine Z12 (v := .int .i64 ((i : Nat) : Int)) (by rfl) (by rfl) (by rfl) ?_
  simp only [Z7,Z0]
  refine Z11 3 (by rfl) (fun Lk hLk => ?_)
  simp only [Z1,Z2]
  refine wpV_indexb (n := i) (by omega) (by rfl) rfl rfl rfl Tryd.underlying9 ?_
  simp only [Z7,Z0]
  refine Z15 (v := .int .u8 ((byteN l i % 16 : Nat) : Int)) (by rfl) rfl rfl rfl (fun W => run_and (and_15 hb9) W) ?_
  simp only [Z7,Z0]
  refine wpV_indexb (n := byteN l i % 16) (show _ < 16 by omega) (by rfl) rfl rfl rfl Tryd.underlying9 ?_
  simp only [Z7,Z0]
  refine Z14 (hLk _ (fun w28 Sw28 => ?_))
  clear hLk Lk
  simp only [Z1,Z2]
  replace M := M.sees Sw28
  replace IB := isB_sees IB Sw28; replace HB9 := Nat.le_trans HB9 Sw28.2.2.size
  refine wpL_callM (f := 99) (args := #[.pointer (some ⟨g5, 0, none⟩), .int .u8 ((byteN digL (byteN l i % 16) : Nat) : Int)]) (R := fun v9 W9 => v9 = .nilIface ∧ Lib.IsBuilder 107 5 w.heap.size g5 (((Lib.byteCells (hexL (l.take i))) ++ [.int .u8 ((byteN digL (byteN l i / 16) : Nat) : Int)]) ++ [.int .u8 ((byteN digL (byteN l i % 16) : Nat) : Int)]) W9 ∧ Below w.heap.size w28 W9) (by rfl) (by rfl) rfl Tryd.func99 (by kernel_rfl) (by kernel_rfl) ((writeByte_c w.heap.size g5 _ _ w28 IB (by simp only [Lib.byteCells_length, List.length_append, hexL_len, List.length_take, List.length_cons, List.length_nil]; omega) HB9).mono fun e W9 h => ⟨_, h.1, rfl, .inr h.2.1, h.2.2⟩) (fun v9 w29 h9 => ?_)
  obtain ⟨rfl, IB2, hBw⟩ := h9
  replace IB := IB2; clear IB2
  replace M := M.belowB hBw hsz hl9
  replace HB9 := Nat.le_trans HB9 hBw.size
  simp only [Z7,Z0]
  refine Z9 (Z10 ?_)
  refine hK20 _ _ ?_
  refine Z8 ?_
  refine Z11 1 (by rfl) (fun Lk hLk => ?_)
  simp only [Z1,Z2]
  refine Z15 (v := .int .i64 ((i + 1 : Nat) : Int)) (by rfl) rfl rfl rfl (fun W => run_add (by simp only [IntKind.wrap_i64]; omega) W) ?_
  simp only [Z7,Z0]
  refine Z14 (hLk _ (fun w31 Sw31 => ?_))
  clear hLk Lk
  simp only [Z1,Z2]
  replace M := M.sees Sw31
  replace IB := isB_sees IB Sw31; replace HB9 := Nat.le_trans HB9 Sw31.2.2.size
  refine Z12 (v := .int .i64 ((i + 1 : Nat) : Int)) (by rfl) (by rfl) (by rfl) ?_
  simp only [Z7,Z0]
  refine Z9 (Z10 ?_)
  refine Exists.intro _ ⟨?_, (i + 1), (fun q9 => (#[Z3, Z3, Z3, Z3, .int .i64 ((i : Nat) : Int), Z3, Z3, Z3, .bool true, .int .i64 ((i : Nat) : Int), .string (bs l), .int .i64 ((i : Nat) : Int), .int .u8 ((byteN l i : Nat) : Int), .int .u8 ((byteN l i / 16 : Nat) : Int), .int .u8 ((byteN digL (byteN l i / 16) : Nat) : Int), .nilIface, .string (bs l), .int .i64 ((i : Nat) : Int), .int .u8 ((byteN l i : Nat) : Int), .int .u8 ((byteN l i % 16 : Nat) : Int), .int .u8 ((byteN digL (byteN l i % 16) : Nat) : Int), .nilIface, .int .i64 ((i + 1 : Nat) : Int)] : Array Value).getD q9 Z3), rfl, rfl, M, (by omega), (by rw [show Lib.byteCells = bcells from rfl, hex_step l hi] at IB; exact IB), HB9⟩
  omega
set_option maxHeartbeats 2000000 in
theorem unhex_first  {w : World}  :
  Calls Tryd.prog 44 #[.string (bs HX)] w fun e w' => e = .returned (.tuple #[.string (bs firstL), .int .i64 0]) ∧ Below w.heap.size w w' := by
 go_enter Tryd.func44, Tryd.ntmps44
 have M := Mem.start w
 refine Z4 (fun K1 hK1 => ?_)
 refine Z8 ?_
 refine Z13 (v := .string (bs ([]))) (by rfl) (by rfl) (by rfl) ?_
 simp only [Z7,Z0]
 refine Z13 (v := .int .i64 0) (by rfl) (by rfl) (by rfl) ?_
 simp only [Z7,Z0]
 refine Z9 (Z10 ?_)
 refine hK1 _ _ ?_
 refine Z4 (fun K3 hK3 => ?_)
 refine Z8 ?_
 refine Z13 (v := (.slice none 0 0)) (by rfl) (by rfl) (by rfl) ?_
 simp only [Z7,Z0]
 refine Z9 (Z10 ?_)
 refine hK3 _ _ ?_
 refine Z4 (fun K5 hK5 => ?_)
 refine wp_block ?_
 refine wp_loop_peel (fun n9 a9 W9 => ∃ (i : Nat) (r : Nat) (rc : Nat) (u6 : Nat → Value), n9 = 2 * (32 - i) ∧ a9 = { tmps := #[.string (bs (HX.drop (2 * i))), Z3, u6 2, u6 3, .slice (some ⟨r, 0, none⟩) i rc, u6 5, u6 6, u6 7, u6 8, u6 9, u6 10, u6 11, u6 12, u6 13, u6 14, u6 15, u6 16, u6 17, u6 18, u6 19, u6 20, u6 21, u6 22, u6 23, u6 24, u6 25, u6 26, u6 27, u6 28, u6 29, u6 30, u6 31, Z3, Z3, Z3, Z3], defers := [] } ∧ Mem [] w W9 [⟨r, rc, [(0, bcells (firstL.take i))]⟩] ∧ i ≤ rc ∧ (1 ≤ i) ∧ (i ≤ 32)) (2 * (32 - (1)) + 1) ?_ (fun n9 a9 W9 hI => ?_)
 ·
  refine Z4 (fun K7 hK7 => ?_)
  refine Z4 (fun K8 hK8 => ?_)
  refine Z8 ?_
  refine Z12 (v := .string (bs HX)) (by rfl) (by rfl) (by rfl) ?_
  simp only [Z7,Z0]
  refine Z11 2 (by rfl) (fun Lk hLk => ?_)
  simp only [Z1,Z2]
  refine wpV_lenS (by rfl) rfl rfl rfl Tryd.underlying9 ?_
  simp only [Z7,Z0]
  refine Z15 (v := .bool true) (by rfl) rfl rfl rfl (fun W => (run_geqN HX.length 2 _ _ W).trans (by rw [(show decide (2 ≤ HX.length) = true by decide)])) ?_
  simp only [Z7,Z0]
  refine Z14 (hLk _ (fun w10 Sw10 => ?_))
  clear hLk Lk
  simp only [Z1,Z2]
  replace M := M.sees Sw10
  refine Z9 (Z10 ?_)
  refine hK8 _ _ ?_
  refine Z5 rfl ?_
  refine wp_skip ?_
  refine hK7 _ _ ?_
  refine Z4 (fun K11 hK11 => ?_)
  refine wp_block ?_
  refine Z4 (fun K12 hK12 => ?_)
  refine wp_region_grow 6 [] (by kernel_rfl) (by kernel_rfl) (by kernel_rfl) (fun Lk hLk => ?_)
  simp only [Z1,Z2]
  refine Z16 (v := .string (bs HX)) (by rfl) rfl rfl ?_
  simp only [Z7,Z0]
  refine wpV_indexb (n := 0) (by rw [hx_len]; decide) (by rfl) rfl rfl rfl Tryd.underlying9 ?_
  simp only [Z7,Z0]
  refine Z20 (v := .int .i64 ((byteN firstL 0 / 16 : Nat) : Int)) (args := #[.string (bs digL), .int .u8 ((byteN HX 0 : Nat) : Int)]) (by rfl) rfl Tryd.func81 (by kernel_rfl) (by kernel_rfl) rfl (fun W hW => (by have h9 := Tryd.strings_IndexByte (bs digL) ((byteN (HX) 0 : Nat) : Int) W; rw [show (bs digL).data.toList = digL from rfl, show Lib.indexByte digL (((byteN (HX) 0 : Nat) : Int).toNat.toUInt8) = ((byteN firstL 0 / 16 : Nat) : Int) from (hx_all 0 (by decide)).1] at h9; exact h9.mono fun e w' h => ⟨h.1, h.2 ▸ Below.refl _ _⟩)) ?_
  simp only [Z7,Z0]
  refine Z16 (v := .string (bs HX)) (by rfl) rfl rfl ?_
  simp only [Z7,Z0]
  refine wpV_indexb (n := 1) (by rw [hx_len]; decide) (by rfl) rfl rfl rfl Tryd.underlying9 ?_
  simp only [Z7,Z0]
  refine Z20 (v := .int .i64 ((byteN firstL 0 % 16 : Nat) : Int)) (args := #[.string (bs digL), .int .u8 ((byteN HX 1 : Nat) : Int)]) (by rfl) rfl Tryd.func81 (by kernel_rfl) (by kernel_rfl) rfl (fun W hW => (by have h9 := Tryd.strings_IndexByte (bs digL) ((byteN (HX) 1 : Nat) : Int) W; rw [show (bs digL).data.toList = digL from rfl, show Lib.indexByte digL (((byteN (HX) 1 : Nat) : Int).toNat.toUInt8) = ((byteN firstL 0 % 16 : Nat) : Int) from (hx_all 0 (by decide)).2] at h9; exact h9.mono fun e w' h => ⟨h.1, h.2 ▸ Below.refl _ _⟩)) ?_
  simp only [Z7,Z0]
  refine Z14 (hLk.out _ ?_)
  clear hLk Lk
  simp only [Z1,Z2]
  iterate 6 refine wpN_skip (by rfl) ?_
  refine wpN_nil (fun w14 Sw14 hbs => ?_)
  clear hbs
  replace M := M.sees Sw14
  refine Z13 (v := .int .i64 ((byteN firstL 0 / 16 : Nat) : Int)) (by rfl) (by rfl) (by rfl) ?_
  simp only [Z7,Z0]
  refine Z13 (v := .int .i64 ((byteN firstL 0 % 16 : Nat) : Int)) (by rfl) (by rfl) (by rfl) ?_
  simp only [Z7,Z0]
  refine Z9 (Z10 ?_)
  refine hK12 _ _ ?_
  refine Z4 (fun K15 hK15 => ?_)
  refine Z4 (fun K16 hK16 => ?_)
  refine Z8 ?_
  refine Z12 (v := .int .i64 ((byteN firstL 0 / 16 : Nat) : Int)) (by rfl) (by rfl) (by rfl) ?_
  simp only [Z7,Z0]
  refine Z11 5 (by rfl) (fun Lk hLk => ?_)
  simp only [Z1,Z2]
  refine Z15 (v := .bool false) (by rfl) rfl rfl rfl (fun W => (run_lssN (byteN firstL 0 / 16) 0 _ _ W).trans (by rw [(decide_eq_false (Nat.not_lt_zero _))])) ?_
  simp only [Z7,Z0]
  refine Z16 (v := .bool false) (by rfl) rfl rfl ?_
  simp only [Z7,Z0]
  refine Z16 (v := .int .i64 ((byteN firstL 0 % 16 : Nat) : Int)) (by rfl) rfl rfl ?_
  simp only [Z7,Z0]
  refine Z15 (v := .bool false) (by rfl) rfl rfl rfl (fun W => (run_lssN (byteN firstL 0 % 16) 0 _ _ W).trans (by rw [(decide_eq_false (Nat.not_lt_zero _))])) ?_
  simp only [Z7,Z0]
  refine wpV_pick (v := .bool false) (by rfl) rfl rfl rfl ?_
  simp only [Z7,Z0]
  refine Z14 (hLk _ (fun w18 Sw18 => ?_))
  clear hLk Lk
  simp only [Z1,Z2]
  replace M := M.sees Sw18
  refine Z9 (Z10 ?_)
  refine hK16 _ _ ?_
  refine Z6 rfl ?_
  refine wp_skip ?_
  refine hK15 _ _ ?_
  refine Z8 ?_
  refine Z12 (v := (.slice none 0 0)) (by rfl) (by rfl) (by rfl) ?_
  simp only [Z7,Z0]
  refine Z12 (v := .int .i64 ((byteN firstL 0 / 16 : Nat) : Int)) (by rfl) (by rfl) (by rfl) ?_
  simp only [Z7,Z0]
  refine Z11 4 (by rfl) (fun Lk hLk => ?_)
  simp only [Z1,Z2]
  refine Z15 (v := .int .i64 ((byteN firstL 0 / 16 * 16 : Nat) : Int)) (by rfl) rfl rfl rfl (fun W => run_shl (m := byteN firstL 0 / 16) (n := 4) (by decide) (by have h9 := byteN_lt firstL 0; simp only [IntKind.wrap_i64]; omega) W) ?_
  simp only [Z7,Z0]
  refine Z16 (v := .int .i64 ((byteN firstL 0 % 16 : Nat) : Int)) (by rfl) rfl rfl ?_
  simp only [Z7,Z0]
  refine Z15 (v := .int .i64 ((byteN firstL 0 : Nat) : Int)) (by rfl) rfl rfl rfl (fun W => run_or (by have h9 := byteN_lt firstL 0; have h8 := or4_fin ⟨byteN firstL 0 / 16, by omega⟩ ⟨byteN firstL 0 % 16, by omega⟩; simp only at h8; rw [show byteN firstL 0 / 16 * 16 + byteN firstL 0 % 16 = byteN firstL 0 by omega] at h8; exact h8) W) ?_
  simp only [Z7,Z0]
  refine wpV_conv (d := .bool) (e := ((byteN firstL 0 : Nat) : Int)) (by rfl) rfl rfl (run_conv_int Tryd.underlying3 Tryd.underlying5 (by have h9 := byteN_lt firstL 0; rw [wrap_u8N]; omega)) ?_
  simp only [Z7,Z0]
  refine Z14 (hLk _ (fun w20 Sw20 => ?_))
  clear hLk Lk
  simp only [Z1,Z2]
  replace M := M.sees Sw20
  refine wpL_rowN (vs := [.int .u8 ((byteN firstL 0 : Nat) : Int)]) (z := .int .u8 0) (bytes := 1) (by rfl) (by rfl) Tryd.underlying29 (by kernel_rfl) (by decide) (by kernel_rfl) (fun g21 w22 Sw22 Hg21 Bg21 => ?_)
  replace M := ((M.sees Sw22).add (N := 1) (cs := [.int .u8 ((byteN firstL 0 : Nat) : Int)]) (M.ge Hg21) (M.fresh Hg21) Bg21 rfl)
  clear Bg21
  simp only [Z7,Z0]
  refine wpL_append0 (m := 1) (news := [.int .u8 ((byteN firstL 0 : Nat) : Int)]) (z := .int .u8 0) (bytes := 1) (by rfl) (by rfl) (by rfl) (by rfl) Tryd.underlying29 (by kernel_rfl) rfl rfl (by decide) (M.r 0 0 rfl rfl) (by decide) (by decide) (fun g23 g23c w24 Sw24 Hg23 Cg23 R T L => ?_)
  replace M := (M.sees Sw24).addR (M.ge Hg23) (M.fresh Hg23) T R L
  clear T R L
  rw [show [.int .u8 ((byteN firstL 0 : Nat) : Int)] = bcells (firstL.take 1) from rfl] at M
  simp only [Z7,Z0]
  refine Z13 (v := .slice (some ⟨g23, 0, none⟩) 1 g23c) (by rfl) (by rfl) (by rfl) ?_
  simp only [Z7,Z0]
  refine Z9 (Z10 ?_)
  refine hK11 _ _ ?_
  refine Z8 ?_
  refine Z12 (v := .string (bs HX)) (by rfl) (by rfl) (by rfl) ?_
  simp only [Z7,Z0]
  refine Z11 1 (by rfl) (fun Lk hLk => ?_)
  simp only [Z1,Z2]
  refine wpV_drop (l := HX) (lo := 2) (by rfl) rfl rfl rfl Tryd.underlying9 (by rw [hx_len]; decide) ?_
  simp only [Z7,Z0]
  refine Z14 (hLk _ (fun w26 Sw26 => ?_))
  clear hLk Lk
  simp only [Z1,Z2]
  replace M := M.sees Sw26
  refine Z13 (v := .string (bs (HX.drop 2))) (by rfl) (by rfl) (by rfl) ?_
  simp only [Z7,Z0]
  refine Z9 (Z10 ?_)
  refine Exists.intro _ ⟨Nat.lt_succ_self _, 1, g23, g23c, (fun q9 => (#[Z3, Z3, .string (bs ([])), .int .i64 0, Z3, .int .i64 ((byteN firstL 0 / 16 : Nat) : Int), .int .i64 ((byteN firstL 0 % 16 : Nat) : Int), .string (bs HX), .int .i64 ((HX.length : Nat) : Int), .bool true, .string (bs HX), .string (bs (HX.drop 2)), .string (bs HX), .int .u8 ((byteN HX 0 : Nat) : Int), .int .i64 ((byteN firstL 0 / 16 : Nat) : Int), .string (bs HX), .int .u8 ((byteN HX 1 : Nat) : Int), .int .i64 ((byteN firstL 0 % 16 : Nat) : Int), .int .i64 ((byteN firstL 0 / 16 : Nat) : Int), .bool false, .bool false, .int .i64 ((byteN firstL 0 % 16 : Nat) : Int), .bool false, .bool false, (.slice none 0 0), .int .i64 ((byteN firstL 0 / 16 : Nat) : Int), .int .i64 ((byteN firstL 0 / 16 * 16 : Nat) : Int), .int .i64 ((byteN firstL 0 % 16 : Nat) : Int), .int .i64 ((byteN firstL 0 : Nat) : Int), .int .u8 ((byteN firstL 0 : Nat) : Int), .slice (some ⟨g21, 0, none⟩) 1 1, .slice (some ⟨g23, 0, none⟩) 1 g23c] : Array Value).getD q9 Z3), rfl, rfl, (M.pick [0] (by decide) rfl), Cg23, (by decide), (by decide)⟩
 clear M
 obtain ⟨i, r, rc, u6, rfl, rfl, M, Cr, hi1, hi4⟩ := hI
 obtain ⟨w27, rfl⟩ : ∃ W8, W8 = W9 := ⟨_, rfl⟩
 refine Z4 (fun K28 hK28 => ?_)
 refine Z4 (fun K29 hK29 => ?_)
 refine Z8 ?_
 refine Z12 (v := .string (bs (HX.drop (2 * i)))) (by rfl) (by rfl) (by rfl) ?_
 simp only [Z7,Z0]
 refine Z11 2 (by rfl) (fun Lk hLk => ?_)
 simp only [Z1,Z2]
 refine wpV_lenS (by rfl) rfl rfl rfl Tryd.underlying9 ?_
 simp only [Z7,Z0]
 refine Z15 (v := .bool (decide (2 ≤ (HX.drop (2 * i)).length))) (by rfl) rfl rfl rfl (fun W => run_geqN ((HX.drop (2 * i)).length) 2 _ _ W) ?_
 simp only [Z7,Z0]
 refine Z14 (hLk _ (fun w31 Sw31 => ?_))
 clear hLk Lk
 simp only [Z1,Z2]
 replace M := M.sees Sw31
 refine Z9 (Z10 ?_)
 refine hK29 _ _ ?_
 cases hc32 : (decide (2 ≤ (HX.drop (2 * i)).length))
 ·
  have e32 : i = 32 := by have h9 := of_decide_eq_false hc32; rw [List.length_drop, hx_len] at h9; omega
  subst e32
  refine Z6 rfl ?_
  refine wp_exit ?_
  refine hK5 _ _ ?_
  refine Z4 (fun K33 hK33 => ?_)
  refine Z4 (fun K34 hK34 => ?_)
  refine Z8 ?_
  refine Z12 (v := .string (bs (HX.drop (2 * 32)))) (by rfl) (by rfl) (by rfl) ?_
  simp only [Z7,Z0]
  refine Z11 1 (by rfl) (fun Lk hLk => ?_)
  simp only [Z1,Z2]
  refine wpV_binS (v := .bool false) (by rfl) rfl rfl rfl (fun W => (run_neq_bs _ _ _ W).trans (by rw [(show decide (HX.drop (2 * 32) ≠ []) = false by decide)])) ?_
  simp only [Z7,Z0]
  refine Z14 (hLk _ (fun w36 Sw36 => ?_))
  clear hLk Lk
  simp only [Z1,Z2]
  replace M := M.sees Sw36
  refine Z9 (Z10 ?_)
  refine hK34 _ _ ?_
  refine Z6 rfl ?_
  refine wp_skip ?_
  refine hK33 _ _ ?_
  refine Z4 (fun K37 hK37 => ?_)
  refine Z8 ?_
  refine Z12 (v := .slice (some ⟨r, 0, none⟩) 32 rc) (by rfl) (by rfl) (by rfl) ?_
  simp only [Z7,Z0]
  refine Z11 1 (by rfl) (fun Lk hLk => ?_)
  simp only [Z1,Z2]
  refine wpV_b2s (l := (firstL.take 32)) (by rfl) rfl rfl (by decide) Tryd.underlying29 Tryd.underlying5 Tryd.underlying9 (M.r 0 0 rfl rfl) (M.lt 0 rfl) ?_
  simp only [Z7,Z0]
  refine Z14 (hLk _ (fun w39 Sw39 => ?_))
  clear hLk Lk
  simp only [Z1,Z2]
  replace M := M.sees Sw39
  refine Z13 (v := .string (bs (firstL.take 32))) (by rfl) (by rfl) (by rfl) ?_
  simp only [Z7,Z0]
  refine Z13 (v := .int .i64 0) (by rfl) (by rfl) (by rfl) ?_
  simp only [Z7,Z0]
  refine Z9 (Z10 ?_)
  refine hK37 _ _ ?_
  refine wp_ret ?_
  repeat (first | with_reducible refine then_ret ?_ | with_reducible refine inblock_ret ?_)
  refine bodyPost_ret (v := .tuple #[.string (bs (firstL.take 32)), .int .i64 0]) (res2 rfl (.tmp (by rfl)) (.tmp (by rfl))) rfl ?_
  have BE := M.below
  exact ⟨by rw [show firstL.take 32 = firstL from rfl], BE⟩
 ·
  have hi : i < 32 := by have h9 := of_decide_eq_true hc32; rw [List.length_drop, hx_len] at h9; omega
  have hb9 := byteN_lt firstL i
  refine Z5 rfl ?_
  refine wp_skip ?_
  refine hK28 _ _ ?_
  refine Z4 (fun K40 hK40 => ?_)
  refine wp_block ?_
  refine Z4 (fun K41 hK41 => ?_)
  refine wp_region_grow 6 [] (by kernel_rfl) (by kernel_rfl) (by kernel_rfl) (fun Lk hLk => ?_)
  simp only [Z1,Z2]
  refine Z16 (v := .string (bs (HX.drop (2 * i)))) (by rfl) rfl rfl ?_
  simp only [Z7,Z0]
  refine wpV_indexb (n := 0) (by rw [List.length_drop, hx_len]; omega) (by rfl) rfl rfl rfl Tryd.underlying9 ?_
  simp only [Z7,Z0]
  refine Z20 (v := .int .i64 ((byteN firstL i / 16 : Nat) : Int)) (args := #[.string (bs digL), .int .u8 ((byteN (HX.drop (2 * i)) 0 : Nat) : Int)]) (by rfl) rfl Tryd.func81 (by kernel_rfl) (by kernel_rfl) rfl (fun W hW => (by have h9 := Tryd.strings_IndexByte (bs digL) ((byteN (HX.drop (2 * i)) 0 : Nat) : Int) W; rw [show (bs digL).data.toList = digL from rfl, show Lib.indexByte digL (((byteN (HX.drop (2 * i)) 0 : Nat) : Int).toNat.toUInt8) = ((byteN firstL i / 16 : Nat) : Int) from (hx_all i hi).1] at h9; exact h9.mono fun e w' h => ⟨h.1, h.2 ▸ Below.refl _ _⟩)) ?_
  simp only [Z7,Z0]
  refine Z16 (v := .string (bs (HX.drop (2 * i)))) (by rfl) rfl rfl ?_
  simp only [Z7,Z0]
  refine wpV_indexb (n := 1) (by rw [List.length_drop, hx_len]; omega) (by rfl) rfl rfl rfl Tryd.underlying9 ?_
  simp only [Z7,Z0]
  refine Z20 (v := .int .i64 ((byteN firstL i % 16 : Nat) : Int)) (args := #[.string (bs digL), .int .u8 ((byteN (HX.drop (2 * i)) 1 : Nat) : Int)]) (by rfl) rfl Tryd.func81 (by kernel_rfl) (by kernel_rfl) rfl (fun W hW => (by have h9 := Tryd.strings_IndexByte (bs digL) ((byteN (HX.drop (2 * i)) 1 : Nat) : Int) W; rw [show (bs digL).data.toList = digL from rfl, show Lib.indexByte digL (((byteN (HX.drop (2 * i)) 1 : Nat) : Int).toNat.toUInt8) = ((byteN firstL i % 16 : Nat) : Int) from (hx_all i hi).2] at h9; exact h9.mono fun e w' h => ⟨h.1, h.2 ▸ Below.refl _ _⟩)) ?_
  simp only [Z7,Z0]
  refine Z14 (hLk.out _ ?_)
  clear hLk Lk
  simp only [Z1,Z2]
  iterate 6 refine wpN_skip (by rfl) ?_
  refine wpN_nil (fun w43 Sw43 hbs => ?_)
  clear hbs
  replace M := M.sees Sw43
  refine Z13 (v := .int .i64 ((byteN firstL i / 16 : Nat) : Int)) (by rfl) (by rfl) (by rfl) ?_
  simp only [Z7,Z0]
  refine Z13 (v := .int .i64 ((byteN firstL i % 16 : Nat) : Int)) (by rfl) (by rfl) (by rfl) ?_
  simp only [Z7,Z0]
  refine Z9 (Z10 ?_)
  refine hK41 _ _ ?_
  refine Z4 (fun K44 hK44 => ?_)
  refine Z4 (fun K45 hK45 => ?_)
  refine Z8 ?_
  refine Z12 (v := .int .i64 ((byteN firstL i / 16 : Nat) : Int)) (by rfl) (by rfl) (by rfl) ?_
  simp only [Z7,Z0]
  refine Z11 5 (by rfl) (fun Lk hLk => ?_)
  simp only [Z1,Z2]
  refine Z15 (v := .bool false) (by rfl) rfl rfl rfl (fun W => (run_lssN (byteN firstL i / 16) 0 _ _ W).trans (by rw [(decide_eq_false (Nat.not_lt_zero _))])) ?_
  simp only [Z7,Z0]
  refine Z16 (v := .bool false) (by rfl) rfl rfl ?_
  simp only [Z7,Z0]
  refine Z16 (v := .int .i64 ((byteN firstL i % 16 : Nat) : Int)) (by rfl) rfl rfl ?_
  simp only [Z7,Z0]
  refine Z15 (v := .bool false) (by rfl) rfl rfl rfl (fun W => (run_lssN (byteN firstL i % 16) 0 _ _ W).trans (by rw [(decide_eq_false (Nat.not_lt_zero _))])) ?_
  simp only [Z7,Z0]
  refine wpV_pick (v := .bool false) (by rfl) rfl rfl rfl ?_
  simp only [Z7,Z0]
  refine Z14 (hLk _ (fun w47 Sw47 => ?_))
  clear hLk Lk
  simp only [Z1,Z2]
  replace M := M.sees Sw47
  refine Z9 (Z10 ?_)
  refine hK45 _ _ ?_
  refine Z6 rfl ?_
  refine wp_skip ?_
  refine hK44 _ _ ?_
  refine Z8 ?_
  refine Z12 (v := .slice (some ⟨r, 0, none⟩) i rc) (by rfl) (by rfl) (by rfl) ?_
  simp only [Z7,Z0]
  refine Z12 (v := .int .i64 ((byteN firstL i / 16 : Nat) : Int)) (by rfl) (by rfl) (by rfl) ?_
  simp only [Z7,Z0]
  refine Z11 4 (by rfl) (fun Lk hLk => ?_)
  simp only [Z1,Z2]
  refine Z15 (v := .int .i64 ((byteN firstL i / 16 * 16 : Nat) : Int)) (by rfl) rfl rfl rfl (fun W => run_shl (m := byteN firstL i / 16) (n := 4) (by decide) (by have h9 := byteN_lt firstL i; simp only [IntKind.wrap_i64]; omega) W) ?_
  simp only [Z7,Z0]
  refine Z16 (v := .int .i64 ((byteN firstL i % 16 : Nat) : Int)) (by rfl) rfl rfl ?_
  simp only [Z7,Z0]
  refine Z15 (v := .int .i64 ((byteN firstL i : Nat) : Int)) (by rfl) rfl rfl rfl (fun W => run_or (by have h9 := byteN_lt firstL i; have h8 := or4_fin ⟨byteN firstL i / 16, by omega⟩ ⟨byteN firstL i % 16, by omega⟩; simp only at h8; rw [show byteN firstL i / 16 * 16 + byteN firstL i % 16 = byteN firstL i by omega] at h8; exact h8) W) ?_
  simp only [Z7,Z0]
  refine wpV_conv (d := .bool) (e := ((byteN firstL i : Nat) : Int)) (by rfl) rfl rfl (run_conv_int Tryd.underlying3 Tryd.underlying5 (by have h9 := byteN_lt firstL i; rw [wrap_u8N]; omega)) ?_
  simp only [Z7,Z0]
  refine Z14 (hLk _ (fun w49 Sw49 => ?_))
  clear hLk Lk
  simp only [Z1,Z2]
  replace M := M.sees Sw49
  refine wpL_rowN (vs := [.int .u8 ((byteN firstL i : Nat) : Int)]) (z := .int .u8 0) (bytes := 1) (by rfl) (by rfl) Tryd.underlying29 (by kernel_rfl) (by decide) (by kernel_rfl) (fun g50 w51 Sw51 Hg50 Bg50 => ?_)
  replace M := ((M.sees Sw51).add (N := 1) (cs := [.int .u8 ((byteN firstL i : Nat) : Int)]) (M.ge Hg50) (M.fresh Hg50) Bg50 rfl)
  clear Bg50
  simp only [Z7,Z0]
  refine wpL_append (n := i) (m := 1) (olds := bcells (firstL.take i)) (news := [.int .u8 ((byteN firstL i : Nat) : Int)]) (z := .int .u8 0) (bytes := 1) (by rfl) (by rfl) (by rfl) (by rfl) Tryd.underlying29 (by kernel_rfl) rfl rfl (by rw [bcells_len, List.length_take]; show min i 32 = i; omega) (by rfl) (M.r 1 0 rfl rfl) (M.t 1 rfl) (M.lt 1 rfl) (M.r 0 0 rfl rfl) (by simp [Value.oneCell']) (by omega) (by unfold maxLen; omega) (fun g52 g52c w53 Sw53 Q Cg52 R T L => ?_)
  replace M := M.grow 1 rfl Sw53 Q R T L
  simp only [Z0] at M
  clear Q R T L
  rw [first_byte hi] at M
  simp only [Z7,Z0]
  refine Z13 (v := .slice (some ⟨g52, 0, none⟩) (i + 1) g52c) (by rfl) (by rfl) (by rfl) ?_
  simp only [Z7,Z0]
  refine Z9 (Z10 ?_)
  refine hK40 _ _ ?_
  refine Z8 ?_
  refine Z12 (v := .string (bs (HX.drop (2 * i)))) (by rfl) (by rfl) (by rfl) ?_
  simp only [Z7,Z0]
  refine Z11 1 (by rfl) (fun Lk hLk => ?_)
  simp only [Z1,Z2]
  refine wpV_drop (l := HX.drop (2 * i)) (lo := 2) (by rfl) rfl rfl rfl Tryd.underlying9 (by rw [List.length_drop, hx_len]; omega) ?_
  simp only [Z7,Z0]
  refine Z14 (hLk _ (fun w55 Sw55 => ?_))
  clear hLk Lk
  simp only [Z1,Z2]
  replace M := M.sees Sw55
  refine Z13 (v := .string (bs ((HX.drop (2 * i)).drop 2))) (by rfl) (by rfl) (by rfl) ?_
  simp only [Z7,Z0]
  refine Z9 (Z10 ?_)
  rw [show (HX.drop (2 * i)).drop 2 = HX.drop (2 * (i + 1)) by rw [List.drop_drop]; rfl]
  refine Exists.intro _ ⟨?_, (i + 1), g52, g52c, (fun q9 => (#[Z3, Z3, u6 2, u6 3, Z3, .int .i64 ((byteN firstL i / 16 : Nat) : Int), .int .i64 ((byteN firstL i % 16 : Nat) : Int), .string (bs (HX.drop (2 * i))), .int .i64 (((HX.drop (2 * i)).length : Nat) : Int), .bool true, .string (bs (HX.drop (2 * i))), .string (bs (HX.drop (2 * (i + 1)))), .string (bs (HX.drop (2 * i))), .int .u8 ((byteN (HX.drop (2 * i)) 0 : Nat) : Int), .int .i64 ((byteN firstL i / 16 : Nat) : Int), .string (bs (HX.drop (2 * i))), .int .u8 ((byteN (HX.drop (2 * i)) 1 : Nat) : Int), .int .i64 ((byteN firstL i % 16 : Nat) : Int), .int .i64 ((byteN firstL i / 16 : Nat) : Int), .bool false, .bool false, .int .i64 ((byteN firstL i % 16 : Nat) : Int), .bool false, .bool false, .slice (some ⟨r, 0, none⟩) i rc, .int .i64 ((byteN firstL i / 16 : Nat) : Int), .int .i64 ((byteN firstL i / 16 * 16 : Nat) : Int), .int .i64 ((byteN firstL i % 16 : Nat) : Int), .int .i64 ((byteN firstL i : Nat) : Int), .int .u8 ((byteN firstL i : Nat) : Int), .slice (some ⟨g50, 0, none⟩) 1 1, .slice (some ⟨g52, 0, none⟩) (i + 1) g52c] : Array Value).getD q9 Z3), rfl, rfl, (M.pick [1] (by decide) rfl), Cg52, (by omega), (by omega)⟩
  omega
set_option maxHeartbeats 1000000 in
theorem first07_c  {w : World}  :
  Calls Tryd.prog 15 #[] w fun e w' => e = .returned (.string (bs firstL)) ∧ Below w.heap.size w w' := by
 go_enter Tryd.func15, Tryd.ntmps15
 have M := Mem.start w
 refine Z4 (fun K1 hK1 => ?_)
 refine Z8 ?_
 refine Z13 (v := .string (bs ([]))) (by rfl) (by rfl) (by rfl) ?_
 simp only [Z7,Z0]
 refine Z9 (Z10 ?_)
 refine hK1 _ _ ?_
 refine Z4 (fun K3 hK3 => ?_)
 refine Z8 ?_
 refine Z11 4 (by rfl) (fun Lk hLk => ?_)
 simp only [Z1,Z2]
 refine Z20 (v := .tuple #[.string (bs firstL), .int .i64 0]) (args := #[.string (bs HX)]) (by rfl) rfl Tryd.func44 (by kernel_rfl) (by kernel_rfl) rfl (fun W hW => unhex_first) ?_
 simp only [Z7,Z0]
 refine Z16 (v := .tuple #[.string (bs firstL), .int .i64 0]) (by rfl) rfl rfl ?_
 simp only [Z7,Z0]
 refine wpV_extract (v := .string (bs firstL)) (by rfl) rfl rfl rfl ?_
 simp only [Z7,Z0]
 refine wpV_extract (v := .int .i64 0) (by rfl) rfl rfl rfl ?_
 simp only [Z7,Z0]
 refine Z14 (hLk _ (fun w5 Sw5 => ?_))
 clear hLk Lk
 simp only [Z1,Z2]
 replace M := M.sees Sw5
 refine Z13 (v := .string (bs firstL)) (by rfl) (by rfl) (by rfl) ?_
 simp only [Z7,Z0]
 refine Z13 (v := .int .i64 0) (by rfl) (by rfl) (by rfl) ?_
 simp only [Z7,Z0]
 refine Z9 (Z10 ?_)
 refine hK3 _ _ ?_
 refine Z4 (fun K6 hK6 => ?_)
 refine Z8 ?_
 refine Z12 (v := .string (bs firstL)) (by rfl) (by rfl) (by rfl) ?_
 simp only [Z7,Z0]
 refine Z13 (v := .string (bs firstL)) (by rfl) (by rfl) (by rfl) ?_
 simp only [Z7,Z0]
 refine Z9 (Z10 ?_)
 refine hK6 _ _ ?_
 refine wp_ret ?_
 repeat (first | with_reducible refine then_ret ?_ | with_reducible refine inblock_ret ?_)
 refine bodyPost_ret (v := .string (bs firstL)) (res1 rfl (.tmp (by rfl))) rfl ?_
 have BE := M.below
 exact ⟨rfl, BE⟩
set_option maxHeartbeats 1000000 in
theorem alive07_c  {w : World} (L2 : 2 < w.heap.size) (R2_0 : w.rangeAt 2 0 kcellsq) :
  Calls Tryd.prog 19 #[] w fun e w' => e = .returned (.bool true) ∧ Below w.heap.size w w' := by
 go_enter Tryd.func19, Tryd.ntmps19
 have M := Mem.start w
 refine Z4 (fun K1 hK1 => ?_)
 refine Z8 ?_
 refine Z13 (v := .bool false) (by rfl) (by rfl) (by rfl) ?_
 simp only [Z7,Z0]
 refine Z9 (Z10 ?_)
 refine hK1 _ _ ?_
 refine Z4 (fun K3 hK3 => ?_)
 refine Z8 ?_
 refine Z11 5 (by rfl) (fun Lk hLk => ?_)
 simp only [Z1,Z2]
 refine Z20 (v := .string (bs firstL)) (args := #[]) (by rfl) rfl Tryd.func15 (by kernel_rfl) (by kernel_rfl) rfl (fun W hW => first07_c) ?_
 simp only [Z7,Z0]
 refine Z20 (v := .tuple #[.string (bs (edT (edN firstL))), .int .i64 0]) (args := #[.string (bs firstL)]) (by rfl) rfl Tryd.func16 (by kernel_rfl) (by kernel_rfl) rfl (fun W hW => (Public_ok (w := W) (by decide) ((M.sees hW).oldL L2) ((M.sees hW).oldR R2_0 L2))) ?_
 simp only [Z7,Z0]
 refine Z16 (v := .tuple #[.string (bs (edT (edN firstL))), .int .i64 0]) (by rfl) rfl rfl ?_
 simp only [Z7,Z0]
 refine wpV_extract (v := .string (bs (edT (edN firstL)))) (by rfl) rfl rfl rfl ?_
 simp only [Z7,Z0]
 refine wpV_extract (v := .int .i64 0) (by rfl) rfl rfl rfl ?_
 simp only [Z7,Z0]
 refine Z14 (hLk _ (fun w5 Sw5 => ?_))
 clear hLk Lk
 simp only [Z1,Z2]
 replace M := M.sees Sw5
 refine Z13 (v := .string (bs (edT (edN firstL)))) (by rfl) (by rfl) (by rfl) ?_
 simp only [Z7,Z0]
 refine Z13 (v := .int .i64 0) (by rfl) (by rfl) (by rfl) ?_
 simp only [Z7,Z0]
 refine Z9 (Z10 ?_)
 refine hK3 _ _ ?_
 refine Z4 (fun K6 hK6 => ?_)
 refine Z8 ?_
 refine Z12 (v := .int .i64 0) (by rfl) (by rfl) (by rfl) ?_
 simp only [Z7,Z0]
 refine Z11 12 (by rfl) (fun Lk hLk => ?_)
 simp only [Z1,Z2]
 refine Z15 (v := .bool true) (by rfl) rfl rfl rfl (fun W => run_eql _ _ _ _ W) ?_
 simp only [Z7,Z0]
 refine Z16 (v := .bool true) (by rfl) rfl rfl ?_
 simp only [Z7,Z0]
 refine Z16 (v := .string (bs (edT (edN firstL)))) (by rfl) rfl rfl ?_
 simp only [Z7,Z0]
 refine wpV_lenS (by rfl) rfl rfl rfl Tryd.underlying9 ?_
 simp only [Z7,Z0]
 refine Z15 (v := .bool true) (by rfl) rfl rfl rfl (fun W => (run_eqlN ((edT (edN firstL)).length) 32 _ _ W).trans (by rw [(decide_eq_true (edT_len _))])) ?_
 simp only [Z7,Z0]
 refine wpV_pick (v := .bool true) (by rfl) rfl rfl rfl ?_
 simp only [Z7,Z0]
 refine Z16 (v := .bool true) (by rfl) rfl rfl ?_
 simp only [Z7,Z0]
 refine Z16 (v := .string (bs (edT (edN firstL)))) (by rfl) rfl rfl ?_
 simp only [Z7,Z0]
 refine wpV_takeS (l := edT (edN firstL)) (hi := 4) (by rfl) rfl rfl rfl Tryd.underlying9 (by rw [edT_len]; decide) ?_
 simp only [Z7,Z0]
 refine Z20 (v := .string (bs (hexL ((edT (edN firstL)).take 4)))) (args := #[.string (bs ((edT (edN firstL)).take 4))]) (by rfl) rfl Tryd.func58 (by kernel_rfl) (by kernel_rfl) rfl (fun W hW => hex_c (l := (edT (edN firstL)).take 4) (by rw [List.length_take]; omega)) ?_
 simp only [Z7,Z0]
 refine wpV_binS (v := .bool true) (by rfl) rfl rfl rfl (fun W => (run_eql_bs _ _ _ W).trans (by rw [(decide_eq_true (by rw [first_key]; decide))])) ?_
 simp only [Z7,Z0]
 refine wpV_pick (v := .bool true) (by rfl) rfl rfl rfl ?_
 simp only [Z7,Z0]
 refine Z14 (hLk _ (fun w8 Sw8 => ?_))
 clear hLk Lk
 simp only [Z1,Z2]
 replace M := M.sees Sw8
 refine Z13 (v := .bool true) (by rfl) (by rfl) (by rfl) ?_
 simp only [Z7,Z0]
 refine Z9 (Z10 ?_)
 refine hK6 _ _ ?_
 refine wp_ret ?_
 repeat (first | with_reducible refine then_ret ?_ | with_reducible refine inblock_ret ?_)
 refine bodyPost_ret (v := .bool true) (res1 rfl (.tmp (by rfl))) rfl ?_
 have BE := M.below
 exact ⟨rfl, BE⟩
end Go.Proofs.Yc

namespace Go.Proofs.Yc
open Go Go.RowKit Go.Proofs.Num
open List renaming set → Z0, take → Z1, drop → Z2
open Go renaming wp_seq_k → Z4
open Go.Proofs.Num renaming putT → Z7, wp_region_seq → Z8, wpL_nil → Z9, no_panic → Z10, wpL_chunk → Z11, wpL_move → Z12, wpL_assign → Z13, wpV_nil → Z14
attribute [local irreducible] wpV wpN wpList
open Go.Proofs.Ya
/-- Why a signature is not right. -/
def edVf (key m sig : List UInt8) : Int := edV (pPar key).2 (sparseE (sig.drop 32)) (decide (textQ (affX (edQ (pPar key).1 (sparseN (sig.drop 32)) (edR [sig.take 32, key, m]))) (affY (edQ (pPar key).1 (sparseN (sig.drop 32)) (edR [sig.take 32, key, m]))) = sig.take 32))
theorem Verify_c {key m sig : List UInt8} {w : World} (hk : key.length = 32) (hs : sig.length = 64) (hm : m.length ≤ 9223372036854775680) (L2 : 2 < w.heap.size) (R2_0 : w.rangeAt 2 0 kcellsq) :
  Calls Tryd.prog 18 #[.string (bs key), .string (bs m), .string (bs sig)] w fun e w' => e = .returned (.int .i64 (edVf key m sig)) ∧ Below w.heap.size w w' := Verify_go hk hs hm L2 R2_0
set_option maxHeartbeats 1000000 in
theorem short07_c {l : List UInt8} {w : World}  :
  Calls Tryd.prog 14 #[.string (bs l)] w fun e w' => e = .returned (.string (bs (cut l 300))) ∧ Below w.heap.size w w' := by
 go_enter Tryd.func14, Tryd.ntmps14
 have M := Mem.start w
 refine Z4 (fun K1 hK1 => ?_)
 refine Z8 ?_
 refine Z13 (v := .string (bs ([]))) (by rfl) (by rfl) (by rfl) ?_
 simp only [Z7,Z0]
 refine Z9 (Z10 ?_)
 refine hK1 _ _ ?_
 refine Z4 (fun K3 hK3 => ?_)
 refine Z8 ?_
 refine Z12 (v := .string (bs l)) (by rfl) (by rfl) (by rfl) ?_
 simp only [Z7,Z0]
 refine Z12 (v := .string (bs l)) (by rfl) (by rfl) (by rfl) ?_
 simp only [Z7,Z0]
 refine Z11 3 (by rfl) (fun Lk hLk => ?_)
 simp only [Z1,Z2]
 refine wpV_lenS (by rfl) rfl rfl rfl Tryd.underlying9 ?_
 simp only [Z7,Z0]
 refine wpV_min (n := l.length) (m := 300) (by rfl) rfl rfl rfl ?_
 simp only [Z7,Z0]
 refine wpV_cut (l := l) (m := 300) (by rfl) rfl rfl rfl Tryd.underlying9 ?_
 simp only [Z7,Z0]
 refine Z14 (hLk _ (fun w5 Sw5 => ?_))
 clear hLk Lk
 simp only [Z1,Z2]
 replace M := M.sees Sw5
 refine Z13 (v := .string (bs (cut l 300))) (by rfl) (by rfl) (by rfl) ?_
 simp only [Z7,Z0]
 refine Z9 (Z10 ?_)
 refine hK3 _ _ ?_
 refine wp_ret ?_
 repeat (first | with_reducible refine then_ret ?_ | with_reducible refine inblock_ret ?_)
 refine bodyPost_ret (v := .string (bs (cut l 300))) (res1 rfl (.tmp (by rfl))) rfl ?_
 have BE := M.below
 exact ⟨rfl, BE⟩
end Go.Proofs.Yc

namespace Go.Proofs.Yc
open Go Go.RowKit Go.Proofs.Num
open List renaming set → Z0, take → Z1, drop → Z2
open Go renaming wp_seq_k → Z4, wp_cond_false → Z6
open Go.Proofs.Num renaming putT → Z7, wp_region_seq → Z8, wpL_nil → Z9, no_panic → Z10, wpL_chunk → Z11, wpL_move → Z12, wpL_assign → Z13, wpV_nil → Z14, wpV_bin → Z15, wpV_move → Z16, then_normal → Z17, wpV_callf → Z20
attribute [local irreducible] wpV wpN wpList
open Go.Proofs.Ya
def offL : List UInt8 := 237 :: (List.replicate 30 255 ++ [127])
def greatL : List UInt8 := List.replicate 32 0 ++ List.replicate 32 255
theorem off_cat : [237] ++ Lib.repeatL [255] 30 ++ [127] = offL := by decide
theorem great_cat : List.replicate 32 0 ++ Lib.repeatL [255] 32 = greatL := by decide
theorem off_par : pPar offL = (noneP, 10) := by
 have h : ¬ fparseE (yT offL) = 0 := by decide +kernel
 unfold pPar
 rw [if_neg h]
theorem off_edV (m sig : List UInt8) : edVf offL m sig = 10 := by
 unfold edVf
 rw [off_par]
 rfl
theorem great_sp : sparseE (greatL.drop 32) = 11 := by decide +kernel
theorem great_edV (seed m : List UInt8) : edVf (edT (edN seed)) m greatL = 11 := by
 unfold edVf
 rw [keyP_par, great_sp]
 rfl
set_option maxHeartbeats 4000000 in
theorem eother_c {l sig : List UInt8} {w : World} (L2 : 2 < w.heap.size) (R2_0 : w.rangeAt 2 0 kcellsq) :
  Calls Tryd.prog 6 #[.string (bs l), .string (bs sig)] w fun e w' => e = .returned (.bool true) ∧ Below w.heap.size w w' := by
 obtain ⟨mm, hmm⟩ : ∃ mm, mm = cut l 300 := ⟨_, rfl⟩
 obtain ⟨sg, hsg⟩ : ∃ sg, sg = cut sig 70 := ⟨_, rfl⟩
 have hm : mm.length ≤ 9223372036854775680 := by rw [hmm]; exact Nat.le_trans (cut_len _ _) (by decide)
 obtain ⟨kt, hkt⟩ : ∃ kt, kt = edT (edN firstL) := ⟨_, rfl⟩
 have ekt := hkt.symm
 go_enter Tryd.func6, Tryd.ntmps6
 have M := Mem.start w
 refine Z4 (fun K1 hK1 => ?_)
 refine Z8 ?_
 refine Z13 (v := .bool false) (by rfl) (by rfl) (by rfl) ?_
 simp only [Z7,Z0]
 refine Z9 (Z10 ?_)
 refine hK1 _ _ ?_
 refine Z4 (fun K3 hK3 => ?_)
 refine wp_region_grow 9 [] (by kernel_rfl) (by kernel_rfl) (by kernel_rfl) (fun Lk hLk => ?_)
 simp only [Z1,Z2]
 refine Z16 (v := .string (bs l)) (by rfl) rfl rfl ?_
 simp only [Z7,Z0]
 refine Z20 (v := .string (bs mm)) (args := #[.string (bs l)]) (by rfl) rfl Tryd.func14 (by kernel_rfl) (by kernel_rfl) rfl (fun W hW => (by have h9 := short07_c (l := l) (w := W); rw [← hmm] at h9; exact h9)) ?_
 simp only [Z7,Z0]
 refine Z16 (v := .string (bs sig)) (by rfl) rfl rfl ?_
 simp only [Z7,Z0]
 refine Z16 (v := .string (bs sig)) (by rfl) rfl rfl ?_
 simp only [Z7,Z0]
 refine wpV_lenS (by rfl) rfl rfl rfl Tryd.underlying9 ?_
 simp only [Z7,Z0]
 refine wpV_min (n := sig.length) (m := 70) (by rfl) rfl rfl rfl ?_
 simp only [Z7,Z0]
 refine wpV_cut (l := sig) (m := 70) (by rfl) rfl rfl rfl Tryd.underlying9 ?_
 simp only [Z7,Z0]
 refine wpV_assign (v := .string (bs mm)) (by rfl) rfl rfl ?_
 simp only [Z7,Z0]
 refine wpV_assign (v := .string (bs (cut sig 70))) (by rfl) rfl rfl ?_
 simp only [Z7,Z0]
 refine Z14 (hLk.out _ ?_)
 clear hLk Lk
 simp only [Z1,Z2]
 iterate 9 refine wpN_skip (by rfl) ?_
 refine wpN_nil (fun w5 Sw5 hbs => ?_)
 clear hbs
 replace M := M.sees Sw5
 refine Z9 (Z10 ?_)
 rw [← hsg]
 refine hK3 _ _ ?_
 refine Z4 (fun K6 hK6 => ?_)
 refine Z8 ?_
 refine Z11 5 (by rfl) (fun Lk hLk => ?_)
 simp only [Z1,Z2]
 refine Z20 (v := .string (bs firstL)) (args := #[]) (by rfl) rfl Tryd.func15 (by kernel_rfl) (by kernel_rfl) rfl (fun W hW => first07_c) ?_
 simp only [Z7,Z0]
 refine Z20 (v := .tuple #[.string (bs kt), .int .i64 0]) (args := #[.string (bs firstL)]) (by rfl) rfl Tryd.func16 (by kernel_rfl) (by kernel_rfl) rfl (fun W hW => (by have h9 := Public_ok (l := firstL) (w := W) (by decide) ((M.sees hW).oldL L2) ((M.sees hW).oldR R2_0 L2); rw [ekt] at h9; exact h9)) ?_
 simp only [Z7,Z0]
 refine Z16 (v := .tuple #[.string (bs kt), .int .i64 0]) (by rfl) rfl rfl ?_
 simp only [Z7,Z0]
 refine wpV_extract (v := .string (bs kt)) (by rfl) rfl rfl rfl ?_
 simp only [Z7,Z0]
 refine wpV_extract (v := .int .i64 0) (by rfl) rfl rfl rfl ?_
 simp only [Z7,Z0]
 refine Z14 (hLk _ (fun w8 Sw8 => ?_))
 clear hLk Lk
 simp only [Z1,Z2]
 replace M := M.sees Sw8
 refine Z13 (v := .string (bs kt)) (by rfl) (by rfl) (by rfl) ?_
 simp only [Z7,Z0]
 refine Z13 (v := .int .i64 0) (by rfl) (by rfl) (by rfl) ?_
 simp only [Z7,Z0]
 refine Z9 (Z10 ?_)
 refine hK6 _ _ ?_
 refine Z4 (fun K9 hK9 => ?_)
 refine Z8 ?_
 refine Z11 3 (by rfl) (fun Lk hLk => ?_)
 simp only [Z1,Z2]
 refine Z20 (v := .string (bs (Lib.repeatL [255] 30))) (args := #[.string (bs ([255])), .int .i64 30]) (by rfl) rfl Tryd.func30 (by kernel_rfl) (by kernel_rfl) rfl (fun W hW => (Tryd.strings_Repeat (bs [255]) 30 W (by decide) (by decide))) ?_
 simp only [Z7,Z0]
 refine wpV_binS (v := .string (bs (([237]) ++ (Lib.repeatL [255] 30)))) (by rfl) rfl rfl rfl (run_add_bs _ _ _ (by decide)) ?_
 simp only [Z7,Z0]
 refine wpV_binS (v := .string (bs ((([237]) ++ (Lib.repeatL [255] 30)) ++ ([127])))) (by rfl) rfl rfl rfl (run_add_bs _ _ _ (by decide)) ?_
 simp only [Z7,Z0]
 refine Z14 (hLk _ (fun w11 Sw11 => ?_))
 clear hLk Lk
 simp only [Z1,Z2]
 replace M := M.sees Sw11
 refine Z13 (v := .string (bs ((([237]) ++ (Lib.repeatL [255] 30)) ++ ([127])))) (by rfl) (by rfl) (by rfl) ?_
 simp only [Z7,Z0]
 refine Z9 (Z10 ?_)
 rw [off_cat]
 refine hK9 _ _ ?_
 refine Z4 (fun K12 hK12 => ?_)
 refine wp_region_treeN (by kernel_rfl) (fun w14 Sw14 => ?_)
 replace M := M.sees Sw14
 refine any_step [0, 2] (by kernel_rfl) rfl (any_two ?_ (any_one ?_))
 ·
  refine any_opL 0 (by rfl) ?_
  simp only [Z1,Z2]
  refine wpL_make (n := 32) (z := .int .u8 0) (bytes := 1) (by rfl) (by rfl) (by rfl) (by rfl) Tryd.underlying29 (by kernel_rfl) rfl (by omega) (by omega) (fun g15 w16 Sw16 Hg15 Bg15 => ?_)
  replace M := ((M.sees Sw16).add (N := 32) (cs := List.replicate 32 (.int .u8 0)) (M.ge Hg15) (M.fresh Hg15) Bg15 (by simp [flen]))
  clear Bg15
  rw [show List.replicate 32 (Value.int .u8 0) = bcells (List.replicate 32 0) from rfl] at M
  simp only [Z7,Z0]
  refine Z9 (Z17 ?_)
  refine any_step [1, 2] (by kernel_rfl) rfl (any_two ?_ (any_one ?_))
  ·
   refine any_opL 1 (by rfl) ?_
   simp only [Z1,Z2]
   refine Z11 1 (by rfl) (fun Lk hLk => ?_)
   simp only [Z1,Z2]
   refine wpV_b2s (l := (List.replicate 32 0)) (by rfl) rfl rfl rfl Tryd.underlying29 Tryd.underlying5 Tryd.underlying9 (M.r 0 0 rfl rfl) (M.lt 0 rfl) ?_
   simp only [Z7,Z0]
   refine Z14 (hLk _ (fun w17 Sw17 => ?_))
   clear hLk Lk
   simp only [Z1,Z2]
   replace M := M.sees Sw17
   refine Z9 (Z17 ?_)
   refine any_step [2] (by kernel_rfl) rfl (any_one ?_)
   refine any_opL 2 (by rfl) ?_
   simp only [Z1,Z2]
   refine Z11 1 (by rfl) (fun Lk hLk => ?_)
   simp only [Z1,Z2]
   refine Z20 (v := .string (bs (Lib.repeatL [255] 32))) (args := #[.string (bs ([255])), .int .i64 32]) (by rfl) rfl Tryd.func30 (by kernel_rfl) (by kernel_rfl) rfl (fun W hW => (Tryd.strings_Repeat (bs [255]) 32 W (by decide) (by decide))) ?_
   simp only [Z7,Z0]
   refine Z14 (hLk _ (fun w18 Sw18 => ?_))
   clear hLk Lk
   simp only [Z1,Z2]
   replace M := M.sees Sw18
   refine Z9 (Z17 ?_)
   refine any_step [3] (by kernel_rfl) rfl (any_one ?_)
   refine any_opL 3 (by rfl) ?_
   simp only [Z1,Z2]
   refine Z11 1 (by rfl) (fun Lk hLk => ?_)
   simp only [Z1,Z2]
   refine wpV_binS (v := .string (bs ((List.replicate 32 0) ++ (Lib.repeatL [255] 32)))) (by rfl) rfl rfl rfl (run_add_bs _ _ _ (by decide)) ?_
   simp only [Z7,Z0]
   refine Z14 (hLk _ (fun w19 Sw19 => ?_))
   clear hLk Lk
   simp only [Z1,Z2]
   replace M := M.sees Sw19
   refine Z9 (Z17 ?_)
   refine any_first 4 (v := .string (bs ((List.replicate 32 0) ++ (Lib.repeatL [255] 32)))) (by rfl) (by kernel_rfl) nopanic_not (by rfl) (by exact yl_assign rfl rfl) ?_
   simp only [Z7,Z0]
   refine any_end (by kernel_rfl) (Z10 ?_)
   rw [great_cat]
   refine hK12 _ _ ?_
   refine Z4 (fun K20 hK20 => ?_)
   refine Z4 (fun K21 hK21 => ?_)
   cases hg22 : (decide (sg.length ≠ 64))
   ·
    refine Z8 ?_
    refine Z12 (v := .string (bs sg)) (by rfl) (by rfl) (by rfl) ?_
    simp only [Z7,Z0]
    refine Z11 17 (by rfl) (fun Lk hLk => ?_)
    simp only [Z1,Z2]
    refine wpV_lenS (by rfl) rfl rfl rfl Tryd.underlying9 ?_
    simp only [Z7,Z0]
    refine Z15 (v := .bool false) (by rfl) rfl rfl rfl (fun W => (run_neqN sg.length 64 _ _ W).trans (by rw [hg22])) ?_
    simp only [Z7,Z0]
    refine Z16 (v := .bool false) (by rfl) rfl rfl ?_
    simp only [Z7,Z0]
    refine wpV_skip (by rfl) (by rfl) ?_
    simp only [Z7,Z0]
    refine wpV_skip (by rfl) (by rfl) ?_
    simp only [Z7,Z0]
    refine wpV_skip (by rfl) (by rfl) ?_
    simp only [Z7,Z0]
    refine wpV_skip (by rfl) (by rfl) ?_
    simp only [Z7,Z0]
    refine wpV_skip (by rfl) (by rfl) ?_
    simp only [Z7,Z0]
    refine wpV_pick (v := .bool false) (by rfl) rfl rfl rfl ?_
    simp only [Z7,Z0]
    refine Z16 (v := .bool false) (by rfl) rfl rfl ?_
    simp only [Z7,Z0]
    refine Z16 (v := .int .i64 0) (by rfl) rfl rfl ?_
    simp only [Z7,Z0]
    refine Z15 (v := .bool false) (by rfl) rfl rfl rfl (fun W => run_neq _ _ _ _ W) ?_
    simp only [Z7,Z0]
    refine wpV_pick (v := .bool false) (by rfl) rfl rfl rfl ?_
    simp only [Z7,Z0]
    refine Z16 (v := .bool false) (by rfl) rfl rfl ?_
    simp only [Z7,Z0]
    refine Z20 (v := .bool true) (args := #[]) (by rfl) rfl Tryd.func19 (by kernel_rfl) (by kernel_rfl) rfl (fun W hW => (alive07_c ((M.sees hW).oldL L2) ((M.sees hW).oldR R2_0 L2))) ?_
    simp only [Z7,Z0]
    refine wpV_not (b := true) (by rfl) rfl rfl ?_
    simp only [Bool.not_true, Bool.not_false]
    simp only [Z7,Z0]
    refine wpV_pick (v := .bool false) (by rfl) rfl rfl rfl ?_
    simp only [Z7,Z0]
    refine Z14 (hLk _ (fun w24 Sw24 => ?_))
    clear hLk Lk
    simp only [Z1,Z2]
    replace M := M.sees Sw24
    refine Z9 (Z10 ?_)
    refine hK21 _ _ ?_
    refine Z6 rfl ?_
    refine wp_skip ?_
    refine hK20 _ _ ?_
    refine Z4 (fun K25 hK25 => ?_)
    refine Z8 ?_
    refine Z12 (v := .string (bs offL)) (by rfl) (by rfl) (by rfl) ?_
    simp only [Z7,Z0]
    refine Z12 (v := .string (bs mm)) (by rfl) (by rfl) (by rfl) ?_
    simp only [Z7,Z0]
    refine Z12 (v := .string (bs greatL)) (by rfl) (by rfl) (by rfl) ?_
    simp only [Z7,Z0]
    refine Z11 15 (by rfl) (fun Lk hLk => ?_)
    simp only [Z1,Z2]
    refine Z20 (v := .int .i64 10) (args := #[.string (bs offL), .string (bs mm), .string (bs greatL)]) (by rfl) rfl Tryd.func18 (by kernel_rfl) (by kernel_rfl) rfl (fun W hW => (by have h9 := Verify_c (key := offL) (m := mm) (sig := greatL) (w := W) (by decide) (by decide) hm ((M.sees hW).oldL L2) ((M.sees hW).oldR R2_0 L2); rw [off_edV] at h9; exact h9)) ?_
    simp only [Z7,Z0]
    refine Z15 (v := .bool true) (by rfl) rfl rfl rfl (fun W => run_eql _ _ _ _ W) ?_
    simp only [Z7,Z0]
    refine Z16 (v := .bool true) (by rfl) rfl rfl ?_
    simp only [Z7,Z0]
    refine Z16 (v := .string (bs kt)) (by rfl) rfl rfl ?_
    simp only [Z7,Z0]
    refine Z16 (v := .string (bs mm)) (by rfl) rfl rfl ?_
    simp only [Z7,Z0]
    refine Z16 (v := .string (bs greatL)) (by rfl) rfl rfl ?_
    simp only [Z7,Z0]
    refine Z20 (v := .int .i64 11) (args := #[.string (bs kt), .string (bs mm), .string (bs greatL)]) (by rfl) rfl Tryd.func18 (by kernel_rfl) (by kernel_rfl) rfl (fun W hW => (by have h9 := Verify_c (key := kt) (m := mm) (sig := greatL) (w := W) (by rw [hkt]; exact edT_len _) (by decide) hm ((M.sees hW).oldL L2) ((M.sees hW).oldR R2_0 L2); rw [hkt, great_edV] at h9; rw [hkt]; exact h9)) ?_
    simp only [Z7,Z0]
    refine Z15 (v := .bool true) (by rfl) rfl rfl rfl (fun W => run_eql _ _ _ _ W) ?_
    simp only [Z7,Z0]
    refine wpV_pick (v := .bool true) (by rfl) rfl rfl rfl ?_
    simp only [Z7,Z0]
    refine Z16 (v := .bool true) (by rfl) rfl rfl ?_
    simp only [Z7,Z0]
    refine Z16 (v := .string (bs mm)) (by rfl) rfl rfl ?_
    simp only [Z7,Z0]
    refine Z16 (v := .string (bs greatL)) (by rfl) rfl rfl ?_
    simp only [Z7,Z0]
    refine Z20 (v := .int .i64 1) (args := #[.string (bs ([])), .string (bs mm), .string (bs greatL)]) (by rfl) rfl Tryd.func18 (by kernel_rfl) (by kernel_rfl) rfl (fun W hW => (Verify_arg1 (by decide))) ?_
    simp only [Z7,Z0]
    refine Z15 (v := .bool true) (by rfl) rfl rfl rfl (fun W => run_eql _ _ _ _ W) ?_
    simp only [Z7,Z0]
    refine wpV_pick (v := .bool true) (by rfl) rfl rfl rfl ?_
    simp only [Z7,Z0]
    refine Z14 (hLk _ (fun w27 Sw27 => ?_))
    clear hLk Lk
    simp only [Z1,Z2]
    replace M := M.sees Sw27
    refine Z13 (v := .bool true) (by rfl) (by rfl) (by rfl) ?_
    simp only [Z7,Z0]
    refine Z9 (Z10 ?_)
    refine hK25 _ _ ?_
    refine wp_ret ?_
    repeat (first | with_reducible refine then_ret ?_ | with_reducible refine inblock_ret ?_)
    refine bodyPost_ret (v := .bool true) (res1 rfl (.tmp (by rfl))) rfl ?_
    have BE := M.below
    exact ⟨rfl, BE⟩
   ·
    have hs64 : sg.length ≠ 64 := of_decide_eq_true hg22
    refine Z8 ?_
    refine Z12 (v := .string (bs sg)) (by rfl) (by rfl) (by rfl) ?_
    simp only [Z7,Z0]
    refine Z11 17 (by rfl) (fun Lk hLk => ?_)
    simp only [Z1,Z2]
    refine wpV_lenS (by rfl) rfl rfl rfl Tryd.underlying9 ?_
    simp only [Z7,Z0]
    refine Z15 (v := .bool true) (by rfl) rfl rfl rfl (fun W => (run_neqN sg.length 64 _ _ W).trans (by rw [hg22])) ?_
    simp only [Z7,Z0]
    refine Z16 (v := .bool true) (by rfl) rfl rfl ?_
    simp only [Z7,Z0]
    refine Z16 (v := .string (bs kt)) (by rfl) rfl rfl ?_
    simp only [Z7,Z0]
    refine Z16 (v := .string (bs mm)) (by rfl) rfl rfl ?_
    simp only [Z7,Z0]
    refine Z16 (v := .string (bs sg)) (by rfl) rfl rfl ?_
    simp only [Z7,Z0]
    refine Z20 (v := .int .i64 1) (args := #[.string (bs kt), .string (bs mm), .string (bs sg)]) (by rfl) rfl Tryd.func18 (by kernel_rfl) (by kernel_rfl) rfl (fun W hW => (Verify_arg2 (by rw [hkt]; exact edT_len _) hs64)) ?_
    simp only [Z7,Z0]
    refine Z15 (v := .bool false) (by rfl) rfl rfl rfl (fun W => run_neq _ _ _ _ W) ?_
    simp only [Z7,Z0]
    refine wpV_pick (v := .bool false) (by rfl) rfl rfl rfl ?_
    simp only [Z7,Z0]
    refine Z16 (v := .bool false) (by rfl) rfl rfl ?_
    simp only [Z7,Z0]
    refine Z16 (v := .int .i64 0) (by rfl) rfl rfl ?_
    simp only [Z7,Z0]
    refine Z15 (v := .bool false) (by rfl) rfl rfl rfl (fun W => run_neq _ _ _ _ W) ?_
    simp only [Z7,Z0]
    refine wpV_pick (v := .bool false) (by rfl) rfl rfl rfl ?_
    simp only [Z7,Z0]
    refine Z16 (v := .bool false) (by rfl) rfl rfl ?_
    simp only [Z7,Z0]
    refine Z20 (v := .bool true) (args := #[]) (by rfl) rfl Tryd.func19 (by kernel_rfl) (by kernel_rfl) rfl (fun W hW => (alive07_c ((M.sees hW).oldL L2) ((M.sees hW).oldR R2_0 L2))) ?_
    simp only [Z7,Z0]
    refine wpV_not (b := true) (by rfl) rfl rfl ?_
    simp only [Bool.not_true, Bool.not_false]
    simp only [Z7,Z0]
    refine wpV_pick (v := .bool false) (by rfl) rfl rfl rfl ?_
    simp only [Z7,Z0]
    refine Z14 (hLk _ (fun w29 Sw29 => ?_))
    clear hLk Lk
    simp only [Z1,Z2]
    replace M := M.sees Sw29
    refine Z9 (Z10 ?_)
    refine hK21 _ _ ?_
    refine Z6 rfl ?_
    refine wp_skip ?_
    refine hK20 _ _ ?_
    refine Z4 (fun K30 hK30 => ?_)
    refine Z8 ?_
    refine Z12 (v := .string (bs offL)) (by rfl) (by rfl) (by rfl) ?_
    simp only [Z7,Z0]
    refine Z12 (v := .string (bs mm)) (by rfl) (by rfl) (by rfl) ?_
    simp only [Z7,Z0]
    refine Z12 (v := .string (bs greatL)) (by rfl) (by rfl) (by rfl) ?_
    simp only [Z7,Z0]
    refine Z11 15 (by rfl) (fun Lk hLk => ?_)
    simp only [Z1,Z2]
    refine Z20 (v := .int .i64 10) (args := #[.string (bs offL), .string (bs mm), .string (bs greatL)]) (by rfl) rfl Tryd.func18 (by kernel_rfl) (by kernel_rfl) rfl (fun W hW => (by have h9 := Verify_c (key := offL) (m := mm) (sig := greatL) (w := W) (by decide) (by decide) hm ((M.sees hW).oldL L2) ((M.sees hW).oldR R2_0 L2); rw [off_edV] at h9; exact h9)) ?_
    simp only [Z7,Z0]
    refine Z15 (v := .bool true) (by rfl) rfl rfl rfl (fun W => run_eql _ _ _ _ W) ?_
    simp only [Z7,Z0]
    refine Z16 (v := .bool true) (by rfl) rfl rfl ?_
    simp only [Z7,Z0]
    refine Z16 (v := .string (bs kt)) (by rfl) rfl rfl ?_
    simp only [Z7,Z0]
    refine Z16 (v := .string (bs mm)) (by rfl) rfl rfl ?_
    simp only [Z7,Z0]
    refine Z16 (v := .string (bs greatL)) (by rfl) rfl rfl ?_
    simp only [Z7,Z0]
    refine Z20 (v := .int .i64 11) (args := #[.string (bs kt), .string (bs mm), .string (bs greatL)]) (by rfl) rfl Tryd.func18 (by kernel_rfl) (by kernel_rfl) rfl (fun W hW => (by have h9 := Verify_c (key := kt) (m := mm) (sig := greatL) (w := W) (by rw [hkt]; exact edT_len _) (by decide) hm ((M.sees hW).oldL L2) ((M.sees hW).oldR R2_0 L2); rw [hkt, great_edV] at h9; rw [hkt]; exact h9)) ?_
    simp only [Z7,Z0]
    refine Z15 (v := .bool true) (by rfl) rfl rfl rfl (fun W => run_eql _ _ _ _ W) ?_
    simp only [Z7,Z0]
    refine wpV_pick (v := .bool true) (by rfl) rfl rfl rfl ?_
    simp only [Z7,Z0]
    refine Z16 (v := .bool true) (by rfl) rfl rfl ?_
    simp only [Z7,Z0]
    refine Z16 (v := .string (bs mm)) (by rfl) rfl rfl ?_
    simp only [Z7,Z0]
    refine Z16 (v := .string (bs greatL)) (by rfl) rfl rfl ?_
    simp only [Z7,Z0]
    refine Z20 (v := .int .i64 1) (args := #[.string (bs ([])), .string (bs mm), .string (bs greatL)]) (by rfl) rfl Tryd.func18 (by kernel_rfl) (by kernel_rfl) rfl (fun W hW => (Verify_arg1 (by decide))) ?_
    simp only [Z7,Z0]
    refine Z15 (v := .bool true) (by rfl) rfl rfl rfl (fun W => run_eql _ _ _ _ W) ?_
    simp only [Z7,Z0]
    refine wpV_pick (v := .bool true) (by rfl) rfl rfl rfl ?_
    simp only [Z7,Z0]
    refine Z14 (hLk _ (fun w32 Sw32 => ?_))
    clear hLk Lk
    simp only [Z1,Z2]
    replace M := M.sees Sw32
    refine Z13 (v := .bool true) (by rfl) (by rfl) (by rfl) ?_
    simp only [Z7,Z0]
    refine Z9 (Z10 ?_)
    refine hK30 _ _ ?_
    refine wp_ret ?_
    repeat (first | with_reducible refine then_ret ?_ | with_reducible refine inblock_ret ?_)
    refine bodyPost_ret (v := .bool true) (res1 rfl (.tmp (by rfl))) rfl ?_
    have BE := M.below
    exact ⟨rfl, BE⟩
  ·
   refine any_opL 2 (by rfl) ?_
   simp only [Z1,Z2]
   refine Z11 1 (by rfl) (fun Lk hLk => ?_)
   simp only [Z1,Z2]
   refine Z20 (v := .string (bs (Lib.repeatL [255] 32))) (args := #[.string (bs ([255])), .int .i64 32]) (by rfl) rfl Tryd.func30 (by kernel_rfl) (by kernel_rfl) rfl (fun W hW => (Tryd.strings_Repeat (bs [255]) 32 W (by decide) (by decide))) ?_
   simp only [Z7,Z0]
   refine Z14 (hLk _ (fun w33 Sw33 => ?_))
   clear hLk Lk
   simp only [Z1,Z2]
   replace M := M.sees Sw33
   refine Z9 (Z17 ?_)
   refine any_step [1] (by kernel_rfl) rfl (any_one ?_)
   refine any_opL 1 (by rfl) ?_
   simp only [Z1,Z2]
   refine Z11 1 (by rfl) (fun Lk hLk => ?_)
   simp only [Z1,Z2]
   refine wpV_b2s (l := (List.replicate 32 0)) (by rfl) rfl rfl rfl Tryd.underlying29 Tryd.underlying5 Tryd.underlying9 (M.r 0 0 rfl rfl) (M.lt 0 rfl) ?_
   simp only [Z7,Z0]
   refine Z14 (hLk _ (fun w34 Sw34 => ?_))
   clear hLk Lk
   simp only [Z1,Z2]
   replace M := M.sees Sw34
   refine Z9 (Z17 ?_)
   refine any_step [3] (by kernel_rfl) rfl (any_one ?_)
   refine any_opL 3 (by rfl) ?_
   simp only [Z1,Z2]
   refine Z11 1 (by rfl) (fun Lk hLk => ?_)
   simp only [Z1,Z2]
   refine wpV_binS (v := .string (bs ((List.replicate 32 0) ++ (Lib.repeatL [255] 32)))) (by rfl) rfl rfl rfl (run_add_bs _ _ _ (by decide)) ?_
   simp only [Z7,Z0]
   refine Z14 (hLk _ (fun w35 Sw35 => ?_))
   clear hLk Lk
   simp only [Z1,Z2]
   replace M := M.sees Sw35
   refine Z9 (Z17 ?_)
   refine any_first 4 (v := .string (bs ((List.replicate 32 0) ++ (Lib.repeatL [255] 32)))) (by rfl) (by kernel_rfl) nopanic_not (by rfl) (by exact yl_assign rfl rfl) ?_
   simp only [Z7,Z0]
   refine any_end (by kernel_rfl) (Z10 ?_)
   rw [great_cat]
   refine hK12 _ _ ?_
   refine Z4 (fun K36 hK36 => ?_)
   refine Z4 (fun K37 hK37 => ?_)
   cases hg38 : (decide (sg.length ≠ 64))
   ·
    refine Z8 ?_
    refine Z12 (v := .string (bs sg)) (by rfl) (by rfl) (by rfl) ?_
    simp only [Z7,Z0]
    refine Z11 17 (by rfl) (fun Lk hLk => ?_)
    simp only [Z1,Z2]
    refine wpV_lenS (by rfl) rfl rfl rfl Tryd.underlying9 ?_
    simp only [Z7,Z0]
    refine Z15 (v := .bool false) (by rfl) rfl rfl rfl (fun W => (run_neqN sg.length 64 _ _ W).trans (by rw [hg38])) ?_
    simp only [Z7,Z0]
    refine Z16 (v := .bool false) (by rfl) rfl rfl ?_
    simp only [Z7,Z0]
    refine wpV_skip (by rfl) (by rfl) ?_
    simp only [Z7,Z0]
    refine wpV_skip (by rfl) (by rfl) ?_
    simp only [Z7,Z0]
    refine wpV_skip (by rfl) (by rfl) ?_
    simp only [Z7,Z0]
    refine wpV_skip (by rfl) (by rfl) ?_
    simp only [Z7,Z0]
    refine wpV_skip (by rfl) (by rfl) ?_
    simp only [Z7,Z0]
    refine wpV_pick (v := .bool false) (by rfl) rfl rfl rfl ?_
    simp only [Z7,Z0]
    refine Z16 (v := .bool false) (by rfl) rfl rfl ?_
    simp only [Z7,Z0]
    refine Z16 (v := .int .i64 0) (by rfl) rfl rfl ?_
    simp only [Z7,Z0]
    refine Z15 (v := .bool false) (by rfl) rfl rfl rfl (fun W => run_neq _ _ _ _ W) ?_
    simp only [Z7,Z0]
    refine wpV_pick (v := .bool false) (by rfl) rfl rfl rfl ?_
    simp only [Z7,Z0]
    refine Z16 (v := .bool false) (by rfl) rfl rfl ?_
    simp only [Z7,Z0]
    refine Z20 (v := .bool true) (args := #[]) (by rfl) rfl Tryd.func19 (by kernel_rfl) (by kernel_rfl) rfl (fun W hW => (alive07_c ((M.sees hW).oldL L2) ((M.sees hW).oldR R2_0 L2))) ?_
    simp only [Z7,Z0]
    refine wpV_not (b := true) (by rfl) rfl rfl ?_
    simp only [Bool.not_true, Bool.not_false]
    simp only [Z7,Z0]
    refine wpV_pick (v := .bool false) (by rfl) rfl rfl rfl ?_
    simp only [Z7,Z0]
    refine Z14 (hLk _ (fun w40 Sw40 => ?_))
    clear hLk Lk
    simp only [Z1,Z2]
    replace M := M.sees Sw40
    refine Z9 (Z10 ?_)
    refine hK37 _ _ ?_
    refine Z6 rfl ?_
    refine wp_skip ?_
    refine hK36 _ _ ?_
    refine Z4 (fun K41 hK41 => ?_)
    refine Z8 ?_
    refine Z12 (v := .string (bs offL)) (by rfl) (by rfl) (by rfl) ?_
    simp only [Z7,Z0]
    refine Z12 (v := .string (bs mm)) (by rfl) (by rfl) (by rfl) ?_
    simp only [Z7,Z0]
    refine Z12 (v := .string (bs greatL)) (by rfl) (by rfl) (by rfl) ?_
    simp only [Z7,Z0]
    refine Z11 15 (by rfl) (fun Lk hLk => ?_)
    simp only [Z1,Z2]
    refine Z20 (v := .int .i64 10) (args := #[.string (bs offL), .string (bs mm), .string (bs greatL)]) (by rfl) rfl Tryd.func18 (by kernel_rfl) (by kernel_rfl) rfl (fun W hW => (by have h9 := Verify_c (key := offL) (m := mm) (sig := greatL) (w := W) (by decide) (by decide) hm ((M.sees hW).oldL L2) ((M.sees hW).oldR R2_0 L2); rw [off_edV] at h9; exact h9)) ?_
    simp only [Z7,Z0]
    refine Z15 (v := .bool true) (by rfl) rfl rfl rfl (fun W => run_eql _ _ _ _ W) ?_
    simp only [Z7,Z0]
    refine Z16 (v := .bool true) (by rfl) rfl rfl ?_
    simp only [Z7,Z0]
    refine Z16 (v := .string (bs kt)) (by rfl) rfl rfl ?_
    simp only [Z7,Z0]
    refine Z16 (v := .string (bs mm)) (by rfl) rfl rfl ?_
    simp only [Z7,Z0]
    refine Z16 (v := .string (bs greatL)) (by rfl) rfl rfl ?_
    simp only [Z7,Z0]
    refine Z20 (v := .int .i64 11) (args := #[.string (bs kt), .string (bs mm), .string (bs greatL)]) (by rfl) rfl Tryd.func18 (by kernel_rfl) (by kernel_rfl) rfl (fun W hW => (by have h9 := Verify_c (key := kt) (m := mm) (sig := greatL) (w := W) (by rw [hkt]; exact edT_len _) (by decide) hm ((M.sees hW).oldL L2) ((M.sees hW).oldR R2_0 L2); rw [hkt, great_edV] at h9; rw [hkt]; exact h9)) ?_
    simp only [Z7,Z0]
    refine Z15 (v := .bool true) (by rfl) rfl rfl rfl (fun W => run_eql _ _ _ _ W) ?_
    simp only [Z7,Z0]
    refine wpV_pick (v := .bool true) (by rfl) rfl rfl rfl ?_
    simp only [Z7,Z0]
    refine Z16 (v := .bool true) (by rfl) rfl rfl ?_
    simp only [Z7,Z0]
    refine Z16 (v := .string (bs mm)) (by rfl) rfl rfl ?_
    simp only [Z7,Z0]
    refine Z16 (v := .string (bs greatL)) (by rfl) rfl rfl ?_
    simp only [Z7,Z0]
    refine Z20 (v := .int .i64 1) (args := #[.string (bs ([])), .string (bs mm), .string (bs greatL)]) (by rfl) rfl Tryd.func18 (by kernel_rfl) (by kernel_rfl) rfl (fun W hW => (Verify_arg1 (by decide))) ?_
    simp only [Z7,Z0]
    refine Z15 (v := .bool true) (by rfl) rfl rfl rfl (fun W => run_eql _ _ _ _ W) ?_
    simp only [Z7,Z0]
    refine wpV_pick (v := .bool true) (by rfl) rfl rfl rfl ?_
    simp only [Z7,Z0]
    refine Z14 (hLk _ (fun w43 Sw43 => ?_))
    clear hLk Lk
    simp only [Z1,Z2]
    replace M := M.sees Sw43
    refine Z13 (v := .bool true) (by rfl) (by rfl) (by rfl) ?_
    simp only [Z7,Z0]
    refine Z9 (Z10 ?_)
    refine hK41 _ _ ?_
    refine wp_ret ?_
    repeat (first | with_reducible refine then_ret ?_ | with_reducible refine inblock_ret ?_)
    refine bodyPost_ret (v := .bool true) (res1 rfl (.tmp (by rfl))) rfl ?_
    have BE := M.below
    exact ⟨rfl, BE⟩
   ·
    have hs64 : sg.length ≠ 64 := of_decide_eq_true hg38
    refine Z8 ?_
    refine Z12 (v := .string (bs sg)) (by rfl) (by rfl) (by rfl) ?_
    simp only [Z7,Z0]
    refine Z11 17 (by rfl) (fun Lk hLk => ?_)
    simp only [Z1,Z2]
    refine wpV_lenS (by rfl) rfl rfl rfl Tryd.underlying9 ?_
    simp only [Z7,Z0]
    refine Z15 (v := .bool true) (by rfl) rfl rfl rfl (fun W => (run_neqN sg.length 64 _ _ W).trans (by rw [hg38])) ?_
    simp only [Z7,Z0]
    refine Z16 (v := .bool true) (by rfl) rfl rfl ?_
    simp only [Z7,Z0]
    refine Z16 (v := .string (bs kt)) (by rfl) rfl rfl ?_
    simp only [Z7,Z0]
    refine Z16 (v := .string (bs mm)) (by rfl) rfl rfl ?_
    simp only [Z7,Z0]
    refine Z16 (v := .string (bs sg)) (by rfl) rfl rfl ?_
    simp only [Z7,Z0]
    refine Z20 (v := .int .i64 1) (args := #[.string (bs kt), .string (bs mm), .string (bs sg)]) (by rfl) rfl Tryd.func18 (by kernel_rfl) (by kernel_rfl) rfl (fun W hW => (Verify_arg2 (by rw [hkt]; exact edT_len _) hs64)) ?_
    simp only [Z7,Z0]
    refine Z15 (v := .bool false) (by rfl) rfl rfl rfl (fun W => run_neq _ _ _ _ W) ?_
    simp only [Z7,Z0]
    refine wpV_pick (v := .bool false) (by rfl) rfl rfl rfl ?_
    simp only [Z7,Z0]
    refine Z16 (v := .bool false) (by rfl) rfl rfl ?_
    simp only [Z7,Z0]
    refine Z16 (v := .int .i64 0) (by rfl) rfl rfl ?_
    simp only [Z7,Z0]
    refine Z15 (v := .bool false) (by rfl) rfl rfl rfl (fun W => run_neq _ _ _ _ W) ?_
    simp only [Z7,Z0]
    refine wpV_pick (v := .bool false) (by rfl) rfl rfl rfl ?_
    simp only [Z7,Z0]
    refine Z16 (v := .bool false) (by rfl) rfl rfl ?_
    simp only [Z7,Z0]
    refine Z20 (v := .bool true) (args := #[]) (by rfl) rfl Tryd.func19 (by kernel_rfl) (by kernel_rfl) rfl (fun W hW => (alive07_c ((M.sees hW).oldL L2) ((M.sees hW).oldR R2_0 L2))) ?_
    simp only [Z7,Z0]
    refine wpV_not (b := true) (by rfl) rfl rfl ?_
    simp only [Bool.not_true, Bool.not_false]
    simp only [Z7,Z0]
    refine wpV_pick (v := .bool false) (by rfl) rfl rfl rfl ?_
    simp only [Z7,Z0]
    refine Z14 (hLk _ (fun w45 Sw45 => ?_))
    clear hLk Lk
    simp only [Z1,Z2]
    replace M := M.sees Sw45
    refine Z9 (Z10 ?_)
    refine hK37 _ _ ?_
    refine Z6 rfl ?_
    refine wp_skip ?_
    refine hK36 _ _ ?_
    refine Z4 (fun K46 hK46 => ?_)
    refine Z8 ?_
    refine Z12 (v := .string (bs offL)) (by rfl) (by rfl) (by rfl) ?_
    simp only [Z7,Z0]
    refine Z12 (v := .string (bs mm)) (by rfl) (by rfl) (by rfl) ?_
    simp only [Z7,Z0]
    refine Z12 (v := .string (bs greatL)) (by rfl) (by rfl) (by rfl) ?_
    simp only [Z7,Z0]
    refine Z11 15 (by rfl) (fun Lk hLk => ?_)
    simp only [Z1,Z2]
    refine Z20 (v := .int .i64 10) (args := #[.string (bs offL), .string (bs mm), .string (bs greatL)]) (by rfl) rfl Tryd.func18 (by kernel_rfl) (by kernel_rfl) rfl (fun W hW => (by have h9 := Verify_c (key := offL) (m := mm) (sig := greatL) (w := W) (by decide) (by decide) hm ((M.sees hW).oldL L2) ((M.sees hW).oldR R2_0 L2); rw [off_edV] at h9; exact h9)) ?_
    simp only [Z7,Z0]
    refine Z15 (v := .bool true) (by rfl) rfl rfl rfl (fun W => run_eql _ _ _ _ W) ?_
    simp only [Z7,Z0]
    refine Z16 (v := .bool true) (by rfl) rfl rfl ?_
    simp only [Z7,Z0]
    refine Z16 (v := .string (bs kt)) (by rfl) rfl rfl ?_
    simp only [Z7,Z0]
    refine Z16 (v := .string (bs mm)) (by rfl) rfl rfl ?_
    simp only [Z7,Z0]
    refine Z16 (v := .string (bs greatL)) (by rfl) rfl rfl ?_
    simp only [Z7,Z0]
    refine Z20 (v := .int .i64 11) (args := #[.string (bs kt), .string (bs mm), .string (bs greatL)]) (by rfl) rfl Tryd.func18 (by kernel_rfl) (by kernel_rfl) rfl (fun W hW => (by have h9 := Verify_c (key := kt) (m := mm) (sig := greatL) (w := W) (by rw [hkt]; exact edT_len _) (by decide) hm ((M.sees hW).oldL L2) ((M.sees hW).oldR R2_0 L2); rw [hkt, great_edV] at h9; rw [hkt]; exact h9)) ?_
    simp only [Z7,Z0]
    refine Z15 (v := .bool true) (by rfl) rfl rfl rfl (fun W => run_eql _ _ _ _ W) ?_
    simp only [Z7,Z0]
    refine wpV_pick (v := .bool true) (by rfl) rfl rfl rfl ?_
    simp only [Z7,Z0]
    refine Z16 (v := .bool true) (by rfl) rfl rfl ?_
    simp only [Z7,Z0]
    refine Z16 (v := .string (bs mm)) (by rfl) rfl rfl ?_
    simp only [Z7,Z0]
    refine Z16 (v := .string (bs greatL)) (by rfl) rfl rfl ?_
    simp only [Z7,Z0]
    refine Z20 (v := .int .i64 1) (args := #[.string (bs ([])), .string (bs mm), .string (bs greatL)]) (by rfl) rfl Tryd.func18 (by kernel_rfl) (by kernel_rfl) rfl (fun W hW => (Verify_arg1 (by decide))) ?_
    simp only [Z7,Z0]
    refine Z15 (v := .bool true) (by rfl) rfl rfl rfl (fun W => run_eql _ _ _ _ W) ?_
    simp only [Z7,Z0]
    refine wpV_pick (v := .bool true) (by rfl) rfl rfl rfl ?_
    simp only [Z7,Z0]
    refine Z14 (hLk _ (fun w48 Sw48 => ?_))
    clear hLk Lk
    simp only [Z1,Z2]
    replace M := M.sees Sw48
    refine Z13 (v := .bool true) (by rfl) (by rfl) (by rfl) ?_
    simp only [Z7,Z0]
    refine Z9 (Z10 ?_)
    refine hK46 _ _ ?_
    refine wp_ret ?_
    repeat (first | with_reducible refine then_ret ?_ | with_reducible refine inblock_ret ?_)
    refine bodyPost_ret (v := .bool true) (res1 rfl (.tmp (by rfl))) rfl ?_
    have BE := M.below
    exact ⟨rfl, BE⟩
 ·
  refine any_opL 2 (by rfl) ?_
  simp only [Z1,Z2]
  refine Z11 1 (by rfl) (fun Lk hLk => ?_)
  simp only [Z1,Z2]
  refine Z20 (v := .string (bs (Lib.repeatL [255] 32))) (args := #[.string (bs ([255])), .int .i64 32]) (by rfl) rfl Tryd.func30 (by kernel_rfl) (by kernel_rfl) rfl (fun W hW => (Tryd.strings_Repeat (bs [255]) 32 W (by decide) (by decide))) ?_
  simp only [Z7,Z0]
  refine Z14 (hLk _ (fun w49 Sw49 => ?_))
  clear hLk Lk
  simp only [Z1,Z2]
  replace M := M.sees Sw49
  refine Z9 (Z17 ?_)
  refine any_step [0] (by kernel_rfl) rfl (any_one ?_)
  refine any_opL 0 (by rfl) ?_
  simp only [Z1,Z2]
  refine wpL_make (n := 32) (z := .int .u8 0) (bytes := 1) (by rfl) (by rfl) (by rfl) (by rfl) Tryd.underlying29 (by kernel_rfl) rfl (by omega) (by omega) (fun g50 w51 Sw51 Hg50 Bg50 => ?_)
  replace M := ((M.sees Sw51).add (N := 32) (cs := List.replicate 32 (.int .u8 0)) (M.ge Hg50) (M.fresh Hg50) Bg50 (by simp [flen]))
  clear Bg50
  rw [show List.replicate 32 (Value.int .u8 0) = bcells (List.replicate 32 0) from rfl] at M
  simp only [Z7,Z0]
  refine Z9 (Z17 ?_)
  refine any_step [1] (by kernel_rfl) rfl (any_one ?_)
  refine any_opL 1 (by rfl) ?_
  simp only [Z1,Z2]
  refine Z11 1 (by rfl) (fun Lk hLk => ?_)
  simp only [Z1,Z2]
  refine wpV_b2s (l := (List.replicate 32 0)) (by rfl) rfl rfl rfl Tryd.underlying29 Tryd.underlying5 Tryd.underlying9 (M.r 0 0 rfl rfl) (M.lt 0 rfl) ?_
  simp only [Z7,Z0]
  refine Z14 (hLk _ (fun w52 Sw52 => ?_))
  clear hLk Lk
  simp only [Z1,Z2]
  replace M := M.sees Sw52
  refine Z9 (Z17 ?_)
  refine any_step [3] (by kernel_rfl) rfl (any_one ?_)
  refine any_opL 3 (by rfl) ?_
  simp only [Z1,Z2]
  refine Z11 1 (by rfl) (fun Lk hLk => ?_)
  simp only [Z1,Z2]
  refine wpV_binS (v := .string (bs ((List.replicate 32 0) ++ (Lib.repeatL [255] 32)))) (by rfl) rfl rfl rfl (run_add_bs _ _ _ (by decide)) ?_
  simp only [Z7,Z0]
  refine Z14 (hLk _ (fun w53 Sw53 => ?_))
  clear hLk Lk
  simp only [Z1,Z2]
  replace M := M.sees Sw53
  refine Z9 (Z17 ?_)
  refine any_first 4 (v := .string (bs ((List.replicate 32 0) ++ (Lib.repeatL [255] 32)))) (by rfl) (by kernel_rfl) nopanic_not (by rfl) (by exact yl_assign rfl rfl) ?_
  simp only [Z7,Z0]
  refine any_end (by kernel_rfl) (Z10 ?_)
  rw [great_cat]
  refine hK12 _ _ ?_
  refine Z4 (fun K54 hK54 => ?_)
  refine Z4 (fun K55 hK55 => ?_)
  cases hg56 : (decide (sg.length ≠ 64))
  ·
   refine Z8 ?_
   refine Z12 (v := .string (bs sg)) (by rfl) (by rfl) (by rfl) ?_
   simp only [Z7,Z0]
   refine Z11 17 (by rfl) (fun Lk hLk => ?_)
   simp only [Z1,Z2]
   refine wpV_lenS (by rfl) rfl rfl rfl Tryd.underlying9 ?_
   simp only [Z7,Z0]
   refine Z15 (v := .bool false) (by rfl) rfl rfl rfl (fun W => (run_neqN sg.length 64 _ _ W).trans (by rw [hg56])) ?_
   simp only [Z7,Z0]
   refine Z16 (v := .bool false) (by rfl) rfl rfl ?_
   simp only [Z7,Z0]
   refine wpV_skip (by rfl) (by rfl) ?_
   simp only [Z7,Z0]
   refine wpV_skip (by rfl) (by rfl) ?_
   simp only [Z7,Z0]
   refine wpV_skip (by rfl) (by rfl) ?_
   simp only [Z7,Z0]
   refine wpV_skip (by rfl) (by rfl) ?_
   simp only [Z7,Z0]
   refine wpV_skip (by rfl) (by rfl) ?_
   simp only [Z7,Z0]
   refine wpV_pick (v := .bool false) (by rfl) rfl rfl rfl ?_
   simp only [Z7,Z0]
   refine Z16 (v := .bool false) (by rfl) rfl rfl ?_
   simp only [Z7,Z0]
   refine Z16 (v := .int .i64 0) (by rfl) rfl rfl ?_
   simp only [Z7,Z0]
   refine Z15 (v := .bool false) (by rfl) rfl rfl rfl (fun W => run_neq _ _ _ _ W) ?_
   simp only [Z7,Z0]
   refine wpV_pick (v := .bool false) (by rfl) rfl rfl rfl ?_
   simp only [Z7,Z0]
   refine Z16 (v := .bool false) (by rfl) rfl rfl ?_
   simp only [Z7,Z0]
   refine Z20 (v := .bool true) (args := #[]) (by rfl) rfl Tryd.func19 (by kernel_rfl) (by kernel_rfl) rfl (fun W hW => (alive07_c ((M.sees hW).oldL L2) ((M.sees hW).oldR R2_0 L2))) ?_
   simp only [Z7,Z0]
   refine wpV_not (b := true) (by rfl) rfl rfl ?_
   simp only [Bool.not_true, Bool.not_false]
   simp only [Z7,Z0]
   refine wpV_pick (v := .bool false) (by rfl) rfl rfl rfl ?_
   simp only [Z7,Z0]
   refine Z14 (hLk _ (fun w58 Sw58 => ?_))
   clear hLk Lk
   simp only [Z1,Z2]
   replace M := M.sees Sw58
   refine Z9 (Z10 ?_)
   refine hK55 _ _ ?_
   refine Z6 rfl ?_
   refine wp_skip ?_
   refine hK54 _ _ ?_
   refine Z4 (fun K59 hK59 => ?_)
   refine Z8 ?_
   refine Z12 (v := .string (bs offL)) (by rfl) (by rfl) (by rfl) ?_
   simp only [Z7,Z0]
   refine Z12 (v := .string (bs mm)) (by rfl) (by rfl) (by rfl) ?_
   simp only [Z7,Z0]
   refine Z12 (v := .string (bs greatL)) (by rfl) (by rfl) (by rfl) ?_
   simp only [Z7,Z0]
   refine Z11 15 (by rfl) (fun Lk hLk => ?_)
   simp only [Z1,Z2]
   refine Z20 (v := .int .i64 10) (args := #[.string (bs offL), .string (bs mm), .string (bs greatL)]) (by rfl) rfl Tryd.func18 (by kernel_rfl) (by kernel_rfl) rfl (fun W hW => (by have h9 := Verify_c (key := offL) (m := mm) (sig := greatL) (w := W) (by decide) (by decide) hm ((M.sees hW).oldL L2) ((M.sees hW).oldR R2_0 L2); rw [off_edV] at h9; exact h9)) ?_
   simp only [Z7,Z0]
   refine Z15 (v := .bool true) (by rfl) rfl rfl rfl (fun W => run_eql _ _ _ _ W) ?_
   simp only [Z7,Z0]
   refine Z16 (v := .bool true) (by rfl) rfl rfl ?_
   simp only [Z7,Z0]
   refine Z16 (v := .string (bs kt)) (by rfl) rfl rfl ?_
   simp only [Z7,Z0]
   refine Z16 (v := .string (bs mm)) (by rfl) rfl rfl ?_
   simp only [Z7,Z0]
   refine Z16 (v := .string (bs greatL)) (by rfl) rfl rfl ?_
   simp only [Z7,Z0]
   refine Z20 (v := .int .i64 11) (args := #[.string (bs kt), .string (bs mm), .string (bs greatL)]) (by rfl) rfl Tryd.func18 (by kernel_rfl) (by kernel_rfl) rfl (fun W hW => (by have h9 := Verify_c (key := kt) (m := mm) (sig := greatL) (w := W) (by rw [hkt]; exact edT_len _) (by decide) hm ((M.sees hW).oldL L2) ((M.sees hW).oldR R2_0 L2); rw [hkt, great_edV] at h9; rw [hkt]; exact h9)) ?_
   simp only [Z7,Z0]
   refine Z15 (v := .bool true) (by rfl) rfl rfl rfl (fun W => run_eql _ _ _ _ W) ?_
   simp only [Z7,Z0]
   refine wpV_pick (v := .bool true) (by rfl) rfl rfl rfl ?_
   simp only [Z7,Z0]
   refine Z16 (v := .bool true) (by rfl) rfl rfl ?_
   simp only [Z7,Z0]
   refine Z16 (v := .string (bs mm)) (by rfl) rfl rfl ?_
   simp only [Z7,Z0]
   refine Z16 (v := .string (bs greatL)) (by rfl) rfl rfl ?_
   simp only [Z7,Z0]
   refine Z20 (v := .int .i64 1) (args := #[.string (bs ([])), .string (bs mm), .string (bs greatL)]) (by rfl) rfl Tryd.func18 (by kernel_rfl) (by kernel_rfl) rfl (fun W hW => (Verify_arg1 (by decide))) ?_
   simp only [Z7,Z0]
   refine Z15 (v := .bool true) (by rfl) rfl rfl rfl (fun W => run_eql _ _ _ _ W) ?_
   simp only [Z7,Z0]
   refine wpV_pick (v := .bool true) (by rfl) rfl rfl rfl ?_
   simp only [Z7,Z0]
   refine Z14 (hLk _ (fun w61 Sw61 => ?_))
   clear hLk Lk
   simp only [Z1,Z2]
   replace M := M.sees Sw61
   refine Z13 (v := .bool true) (by rfl) (by rfl) (by rfl) ?_
   simp only [Z7,Z0]
   refine Z9 (Z10 ?_)
   refine hK59 _ _ ?_
   refine wp_ret ?_
   repeat (first | with_reducible refine then_ret ?_ | with_reducible refine inblock_ret ?_)
   refine bodyPost_ret (v := .bool true) (res1 rfl (.tmp (by rfl))) rfl ?_
   have BE := M.below
   exact ⟨rfl, BE⟩
  ·
   have hs64 : sg.length ≠ 64 := of_decide_eq_true hg56
   refine Z8 ?_
   refine Z12 (v := .string (bs sg)) (by rfl) (by rfl) (by rfl) ?_
   simp only [Z7,Z0]
   refine Z11 17 (by rfl) (fun Lk hLk => ?_)
   simp only [Z1,Z2]
   refine wpV_lenS (by rfl) rfl rfl rfl Tryd.underlying9 ?_
   simp only [Z7,Z0]
   refine Z15 (v := .bool true) (by rfl) rfl rfl rfl (fun W => (run_neqN sg.length 64 _ _ W).trans (by rw [hg56])) ?_
   simp only [Z7,Z0]
   refine Z16 (v := .bool true) (by rfl) rfl rfl ?_
   simp only [Z7,Z0]
   refine Z16 (v := .string (bs kt)) (by rfl) rfl rfl ?_
   simp only [Z7,Z0]
   refine Z16 (v := .string (bs mm)) (by rfl) rfl rfl ?_
   simp only [Z7,Z0]
   refine Z16 (v := .string (bs sg)) (by rfl) rfl rfl ?_
   simp only [Z7,Z0]
   refine Z20 (v := .int .i64 1) (args := #[.string (bs kt), .string (bs mm), .string (bs sg)]) (by rfl) rfl Tryd.func18 (by kernel_rfl) (by kernel_rfl) rfl (fun W hW => (Verify_arg2 (by rw [hkt]; exact edT_len _) hs64)) ?_
   simp only [Z7,Z0]
   refine Z15 (v := .bool false) (by rfl) rfl rfl rfl (fun W => run_neq _ _ _ _ W) ?_
   simp only [Z7,Z0]
   refine wpV_pick (v := .bool false) (by rfl) rfl rfl rfl ?_
   simp only [Z7,Z0]
   refine Z16 (v := .bool false) (by rfl) rfl rfl ?_
   simp only [Z7,Z0]
   refine Z16 (v := .int .i64 0) (by rfl) rfl rfl ?_
   simp only [Z7,Z0]
   refine Z15 (v := .bool false) (by rfl) rfl rfl rfl (fun W => run_neq _ _ _ _ W) ?_
   simp only [Z7,Z0]
   refine wpV_pick (v := .bool false) (by rfl) rfl rfl rfl ?_
   simp only [Z7,Z0]
   refine Z16 (v := .bool false) (by rfl) rfl rfl ?_
   simp only [Z7,Z0]
   refine Z20 (v := .bool true) (args := #[]) (by rfl) rfl Tryd.func19 (by kernel_rfl) (by kernel_rfl) rfl (fun W hW => (alive07_c ((M.sees hW).oldL L2) ((M.sees hW).oldR R2_0 L2))) ?_
   simp only [Z7,Z0]
   refine wpV_not (b := true) (by rfl) rfl rfl ?_
   simp only [Bool.not_true, Bool.not_false]
   simp only [Z7,Z0]
   refine wpV_pick (v := .bool false) (by rfl) rfl rfl rfl ?_
   simp only [Z7,Z0]
   refine Z14 (hLk _ (fun w63 Sw63 => ?_))
   clear hLk Lk
   simp only [Z1,Z2]
   replace M := M.sees Sw63
   refine Z9 (Z10 ?_)
   refine hK55 _ _ ?_
   refine Z6 rfl ?_
   refine wp_skip ?_
   refine hK54 _ _ ?_
   refine Z4 (fun K64 hK64 => ?_)
   refine Z8 ?_
   refine Z12 (v := .string (bs offL)) (by rfl) (by rfl) (by rfl) ?_
   simp only [Z7,Z0]
   refine Z12 (v := .string (bs mm)) (by rfl) (by rfl) (by rfl) ?_
   simp only [Z7,Z0]
   refine Z12 (v := .string (bs greatL)) (by rfl) (by rfl) (by rfl) ?_
   simp only [Z7,Z0]
   refine Z11 15 (by rfl) (fun Lk hLk => ?_)
   simp only [Z1,Z2]
   refine Z20 (v := .int .i64 10) (args := #[.string (bs offL), .string (bs mm), .string (bs greatL)]) (by rfl) rfl Tryd.func18 (by kernel_rfl) (by kernel_rfl) rfl (fun W hW => (by have h9 := Verify_c (key := offL) (m := mm) (sig := greatL) (w := W) (by decide) (by decide) hm ((M.sees hW).oldL L2) ((M.sees hW).oldR R2_0 L2); rw [off_edV] at h9; exact h9)) ?_
   simp only [Z7,Z0]
   refine Z15 (v := .bool true) (by rfl) rfl rfl rfl (fun W => run_eql _ _ _ _ W) ?_
   simp only [Z7,Z0]
   refine Z16 (v := .bool true) (by rfl) rfl rfl ?_
   simp only [Z7,Z0]
   refine Z16 (v := .string (bs kt)) (by rfl) rfl rfl ?_
   simp only [Z7,Z0]
   refine Z16 (v := .string (bs mm)) (by rfl) rfl rfl ?_
   simp only [Z7,Z0]
   refine Z16 (v := .string (bs greatL)) (by rfl) rfl rfl ?_
   simp only [Z7,Z0]
   refine Z20 (v := .int .i64 11) (args := #[.string (bs kt), .string (bs mm), .string (bs greatL)]) (by rfl) rfl Tryd.func18 (by kernel_rfl) (by kernel_rfl) rfl (fun W hW => (by have h9 := Verify_c (key := kt) (m := mm) (sig := greatL) (w := W) (by rw [hkt]; exact edT_len _) (by decide) hm ((M.sees hW).oldL L2) ((M.sees hW).oldR R2_0 L2); rw [hkt, great_edV] at h9; rw [hkt]; exact h9)) ?_
   simp only [Z7,Z0]
   refine Z15 (v := .bool true) (by rfl) rfl rfl rfl (fun W => run_eql _ _ _ _ W) ?_
   simp only [Z7,Z0]
   refine wpV_pick (v := .bool true) (by rfl) rfl rfl rfl ?_
   simp only [Z7,Z0]
   refine Z16 (v := .bool true) (by rfl) rfl rfl ?_
   simp only [Z7,Z0]
   refine Z16 (v := .string (bs mm)) (by rfl) rfl rfl ?_
   simp only [Z7,Z0]
   refine Z16 (v := .string (bs greatL)) (by rfl) rfl rfl ?_
   simp only [Z7,Z0]
   refine Z20 (v := .int .i64 1) (args := #[.string (bs ([])), .string (bs mm), .string (bs greatL)]) (by rfl) rfl Tryd.func18 (by kernel_rfl) (by kernel_rfl) rfl (fun W hW => (Verify_arg1 (by decide))) ?_
   simp only [Z7,Z0]
   refine Z15 (v := .bool true) (by rfl) rfl rfl rfl (fun W => run_eql _ _ _ _ W) ?_
   simp only [Z7,Z0]
   refine wpV_pick (v := .bool true) (by rfl) rfl rfl rfl ?_
   simp only [Z7,Z0]
   refine Z14 (hLk _ (fun w66 Sw66 => ?_))
   clear hLk Lk
   simp only [Z1,Z2]
   replace M := M.sees Sw66
   refine Z13 (v := .bool true) (by rfl) (by rfl) (by rfl) ?_
   simp only [Z7,Z0]
   refine Z9 (Z10 ?_)
   refine hK64 _ _ ?_
   refine wp_ret ?_
   repeat (first | with_reducible refine then_ret ?_ | with_reducible refine inblock_ret ?_)
   refine bodyPost_ret (v := .bool true) (res1 rfl (.tmp (by rfl))) rfl ?_
   have BE := M.below
   exact ⟨rfl, BE⟩
end Go.Proofs.Yc

