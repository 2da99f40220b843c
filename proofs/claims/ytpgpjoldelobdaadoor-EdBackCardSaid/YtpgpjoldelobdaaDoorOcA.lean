import Derived.WalkKit
import Derived.WalkSpells
import Derived.Laws.Pointers
import Derived.RowKit3
import Derived.Below
import Derived.Outline
import Derived.LoopN
import Derived.Lib.Hide
import Derived.Handy
import Derived.Laws.Bits64b
import Derived.Test.YtpgpjoldelobdaaDoorEdD
import Derived.Test.YtpgpjoldelobdaaDoorHexA
import Derived.Test.YtpgpjoldelobdaaDoorSq3
import Derived.Test.YtpgpjoldelobdaaDoorSq4
set_option linter.unusedSimpArgs false
set_option linter.unusedVariables false
namespace Go.Proofs.Yc
open Go Go.RowKit Go.Proofs.Num
open Nat renaming le_trans → Z2
open List renaming set → Z5, take → Z6, drop → Z7
open Go renaming undef → Z8, wp_seq_k → Z9, wp_cond_true → Z10, wp_cond_false → Z11
open Go.Proofs.Num renaming putT → Z12, wp_region_seq → Z13, wpL_nil → Z14, no_panic → Z15, wpL_chunk → Z16, wpL_move → Z17, wpL_assign → Z18, wpV_nil → Z19, wpV_bin → Z20, wpV_move → Z21, wpV_callf → Z25, wpN_skip → Z28, wpN_nil → Z29, wpV_extract → Z32, wpL_var → Z36
attribute [local irreducible] wpV wpN wpList
open Go.Proofs.Ya
set_option maxHeartbeats 2000000 in
theorem hex_c {l : List UInt8} {w : World} (hl : l.length ≤ 1048576) :
  Calls Tryd.prog 58 #[.string (bs l)] w fun e w' => e = .returned (.string (bs (hexL l))) ∧ Below w.heap.size w w' := by
 go_enter Tryd.func58, Tryd.ntmps58
 have M := Mem.start w
 refine Z9 (fun K1 hK1 => ?_)
 refine Z13 ?_
 refine Z18 (v := .string (bs ([]))) (by rfl) (by rfl) (by rfl) ?_
 simp only [Z12, Z5]
 refine Z14 (Z15 ?_)
 refine hK1 _ _ ?_
 refine Z9 (fun K3 hK3 => ?_)
 refine Z13 ?_
 refine Z36 (t := 107) (cs := [.pointer none, .slice none 0 0]) (by rfl) (fun W => ?_) (fun g5 w4 SB HB BB => ?_)
 ·
  go_simp
 have IB : Lib.IsBuilder 107 5 w.heap.size g5 [] w4 := .inl ⟨HB, _, BB, World.ownsRow_nil _ _ _ _, by simp [Value.ownBlock]⟩
 have HB9 := SB.2.2.size
 have hsz := Nat.le_refl w.heap.size
 have hl9 : ∀ b9 ∈ ([] : List Bk), b9.g < w.heap.size := fun b9 hb9 => nomatch hb9
 replace M := M.sees SB
 simp only [Z12, Z5]
 refine Z14 (Z15 ?_)
 refine hK3 _ _ ?_
 refine Z9 (fun K6 hK6 => ?_)
 refine Z9 (fun K7 hK7 => ?_)
 refine Z13 ?_
 refine Z17 (v := .string (bs l)) (by rfl) (by rfl) (by rfl) ?_
 simp only [Z12, Z5]
 refine Z16 1 (by rfl) (fun Lk hLk => ?_)
 simp only [Z6, Z7]
 refine wpV_lenS (by rfl) rfl rfl rfl Tryd.underlying9 ?_
 simp only [Z12, Z5]
 refine Z19 (hLk _ (fun w9 Sw9 => ?_))
 clear hLk Lk
 simp only [Z6, Z7]
 replace M := M.sees Sw9
 replace IB := isB_sees IB Sw9; replace HB9 := Z2 HB9 Sw9.2.2.size
 refine Z17 (v := .int .i64 0) (by rfl) (by rfl) (by rfl) ?_
 simp only [Z12, Z5]
 refine Z14 (Z15 ?_)
 refine hK7 _ _ ?_
 refine wp_block ?_
 refine wp_loop_ghost (fun n9 a9 W9 => ∃ (i : Nat) (u10 : Nat → Value), n9 = 2 * (l.length - i) ∧ a9 = { tmps := #[.string (bs l), Z8, .string (bs ([])), .pointer (some ⟨g5, 0, none⟩), u10 4, .string (bs l), .int .i64 ((l.length : Nat) : Int), .int .i64 ((i : Nat) : Int), u10 8, u10 9, u10 10, u10 11, u10 12, u10 13, u10 14, u10 15, u10 16, u10 17, u10 18, u10 19, u10 20, u10 21, u10 22, Z8], defers := [] } ∧ Mem [] w W9 [] ∧ (i ≤ l.length) ∧ (Lib.IsBuilder 107 5 w.heap.size g5 (Lib.byteCells (hexL (l.take i))) W9) ∧ (w.heap.size ≤ W9.heap.size)) (2 * (l.length - (0))) ?_ (fun n9 a9 W9 hI => ?_)
 ·
  exact ⟨0, (fun q9 => (#[Z8, Z8, Z8, Z8, Z8, Z8, Z8, Z8, Z8, Z8, Z8, Z8, Z8, Z8, Z8, Z8, Z8, Z8, Z8, Z8, Z8, Z8, Z8] : Array Value).getD q9 Z8), rfl, rfl, M, (Nat.zero_le _), IB, HB9⟩
 clear M
 obtain ⟨i, u10, rfl, rfl, M, hi4, IB, HB9⟩ := hI
 obtain ⟨w11, rfl⟩ : ∃ W8, W8 = W9 := ⟨_, rfl⟩
 refine Z9 (fun K12 hK12 => ?_)
 refine Z13 ?_
 refine Z16 1 (by rfl) (fun Lk hLk => ?_)
 simp only [Z6, Z7]
 refine Z20 (v := .bool (decide (i < l.length))) (by rfl) rfl rfl rfl (fun W => run_lssN i l.length _ _ W) ?_
 simp only [Z12, Z5]
 refine Z19 (hLk _ (fun w14 Sw14 => ?_))
 clear hLk Lk
 simp only [Z6, Z7]
 replace M := M.sees Sw14
 replace IB := isB_sees IB Sw14; replace HB9 := Z2 HB9 Sw14.2.2.size
 refine Z14 (Z15 ?_)
 refine hK12 _ _ ?_
 refine Z9 (fun K15 hK15 => ?_)
 cases hc16 : (decide (i < l.length))
 ·
  have ei : i = l.length := by have := of_decide_eq_false hc16; omega
  subst ei
  refine Z11 rfl ?_
  refine wp_exit ?_
  refine hK6 _ _ ?_
  refine Z9 (fun K17 hK17 => ?_)
  refine Z13 ?_
  refine wpL_callM (f := 71) (args := #[.pointer (some ⟨g5, 0, none⟩)]) (R := fun v9 W9 => v9 = .string (bs (hexL l)) ∧ Below w.heap.size w14 W9) (by rfl) (by rfl) rfl Tryd.func71 (by kernel_rfl) (by kernel_rfl) ((Tryd.Builder_String_any w.heap.size g5 (hexL l) w14 (by rw [List.take_length] at IB; exact IB) HB9).mono fun e W9 h => ⟨_, h.1, rfl, h.2⟩) (fun v9 w19 h9 => ?_)
  obtain ⟨rfl, hBw⟩ := h9
  replace M := M.belowB hBw hsz hl9
  simp only [Z12, Z5]
  refine Z18 (v := .string (bs (hexL l))) (by rfl) (by rfl) (by rfl) ?_
  simp only [Z12, Z5]
  refine Z14 (Z15 ?_)
  refine hK17 _ _ ?_
  refine wp_ret ?_
  repeat (first | with_reducible refine then_ret ?_ | with_reducible refine inblock_ret ?_)
  refine bodyPost_ret (v := .string (bs (hexL l))) (res1 rfl (.tmp (by rfl))) rfl ?_
  have BE := M.below
  exact ⟨rfl, M.below⟩
 ·
  have hi : i < l.length := of_decide_eq_true hc16
  have hb9 := byteN_lt l i
  refine Z10 rfl ?_
  refine wp_skip ?_
  refine hK15 _ _ ?_
  refine Z9 (fun K20 hK20 => ?_)
  refine wp_block ?_
  refine Z9 (fun K21 hK21 => ?_)
  refine Z13 ?_
  refine Z17 (v := .int .i64 ((i : Nat) : Int)) (by rfl) (by rfl) (by rfl) ?_
  simp only [Z12, Z5]
  refine Z18 (v := .int .i64 ((i : Nat) : Int)) (by rfl) (by rfl) (by rfl) ?_
  simp only [Z12, Z5]
  refine Z14 (Z15 ?_)
  refine hK21 _ _ ?_
  refine Z9 (fun K23 hK23 => ?_)
  refine Z13 ?_
  refine Z17 (v := .string (bs l)) (by rfl) (by rfl) (by rfl) ?_
  simp only [Z12, Z5]
  refine Z17 (v := .int .i64 ((i : Nat) : Int)) (by rfl) (by rfl) (by rfl) ?_
  simp only [Z12, Z5]
  refine Z16 3 (by rfl) (fun Lk hLk => ?_)
  simp only [Z6, Z7]
  refine wpV_indexb (n := i) (by omega) (by rfl) rfl rfl rfl Tryd.underlying9 ?_
  simp only [Z12, Z5]
  refine Z20 (v := .int .u8 ((byteN l i / 16 : Nat) : Int)) (by rfl) rfl rfl rfl (fun W => run_shr (n := 4) (by decide) (by rfl) W) ?_
  simp only [Z12, Z5]
  refine wpV_indexb (n := byteN l i / 16) (show _ < 16 by omega) (by rfl) rfl rfl rfl Tryd.underlying9 ?_
  simp only [Z12, Z5]
  refine Z19 (hLk _ (fun w25 Sw25 => ?_))
  clear hLk Lk
  simp only [Z6, Z7]
  replace M := M.sees Sw25
  replace IB := isB_sees IB Sw25; replace HB9 := Z2 HB9 Sw25.2.2.size
  refine wpL_callM (f := 99) (args := #[.pointer (some ⟨g5, 0, none⟩), .int .u8 ((byteN digL (byteN l i / 16) : Nat) : Int)]) (R := fun v9 W9 => v9 = .nilIface ∧ Lib.IsBuilder 107 5 w.heap.size g5 ((Lib.byteCells (hexL (l.take i))) ++ [.int .u8 ((byteN digL (byteN l i / 16) : Nat) : Int)]) W9 ∧ Below w.heap.size w25 W9) (by rfl) (by rfl) rfl Tryd.func99 (by kernel_rfl) (by kernel_rfl) ((writeByte_c w.heap.size g5 _ _ w25 IB (by simp only [Lib.byteCells_length, List.length_append, hexL_len, List.length_take, List.length_cons, List.length_nil]; omega) HB9).mono fun e W9 h => ⟨_, h.1, rfl, .inr h.2.1, h.2.2⟩) (fun v9 w26 h9 => ?_)
  obtain ⟨rfl, IB2, hBw⟩ := h9
  replace IB := IB2; clear IB2
  replace M := M.belowB hBw hsz hl9
  replace HB9 := Z2 HB9 hBw.size
  simp only [Z12, Z5]
  refine Z14 (Z15 ?_)
  refine hK23 _ _ ?_
  refine Z13 ?_
  refine Z17 (v := .string (bs l)) (by rfl) (by rfl) (by rfl) ?_
  simp only [Z12, Z5]
  refine Z17 (v := .int .i64 ((i : Nat) : Int)) (by rfl) (by rfl) (by rfl) ?_
  simp only [Z12, Z5]
  refine Z16 3 (by rfl) (fun Lk hLk => ?_)
  simp only [Z6, Z7]
  refine wpV_indexb (n := i) (by omega) (by rfl) rfl rfl rfl Tryd.underlying9 ?_
  simp only [Z12, Z5]
  refine Z20 (v := .int .u8 ((byteN l i % 16 : Nat) : Int)) (by rfl) rfl rfl rfl (fun W => run_and (and_15 hb9) W) ?_
  simp only [Z12, Z5]
  refine wpV_indexb (n := byteN l i % 16) (show _ < 16 by omega) (by rfl) rfl rfl rfl Tryd.underlying9 ?_
  simp only [Z12, Z5]
  refine Z19 (hLk _ (fun w28 Sw28 => ?_))
  clear hLk Lk
  simp only [Z6, Z7]
  replace M := M.sees Sw28
  replace IB := isB_sees IB Sw28; replace HB9 := Z2 HB9 Sw28.2.2.size
  refine wpL_callM (f := 99) (args := #[.pointer (some ⟨g5, 0, none⟩), .int .u8 ((byteN digL (byteN l i % 16) : Nat) : Int)]) (R := fun v9 W9 => v9 = .nilIface ∧ Lib.IsBuilder 107 5 w.heap.size g5 (((Lib.byteCells (hexL (l.take i))) ++ [.int .u8 ((byteN digL (byteN l i / 16) : Nat) : Int)]) ++ [.int .u8 ((byteN digL (byteN l i % 16) : Nat) : Int)]) W9 ∧ Below w.heap.size w28 W9) (by rfl) (by rfl) rfl Tryd.func99 (by kernel_rfl) (by kernel_rfl) ((writeByte_c w.heap.size g5 _ _ w28 IB (by simp only [Lib.byteCells_length, List.length_append, hexL_len, List.length_take, List.length_cons, List.length_nil]; omega) HB9).mono fun e W9 h => ⟨_, h.1, rfl, .inr h.2.1, h.2.2⟩) (fun v9 w29 h9 => ?_)
  obtain ⟨rfl, IB2, hBw⟩ := h9
  replace IB := IB2; clear IB2
  replace M := M.belowB hBw hsz hl9
  replace HB9 := Z2 HB9 hBw.size
  simp only [Z12, Z5]
  refine Z14 (Z15 ?_)
  refine hK20 _ _ ?_
  refine Z13 ?_
  refine Z16 1 (by rfl) (fun Lk hLk => ?_)
  simp only [Z6, Z7]
  refine Z20 (v := .int .i64 ((i + 1 : Nat) : Int)) (by rfl) rfl rfl rfl (fun W => run_add (by simp only [IntKind.wrap_i64]; omega) W) ?_
  simp only [Z12, Z5]
  refine Z19 (hLk _ (fun w31 Sw31 => ?_))
  clear hLk Lk
  simp only [Z6, Z7]
  replace M := M.sees Sw31
  replace IB := isB_sees IB Sw31; replace HB9 := Z2 HB9 Sw31.2.2.size
  refine Z17 (v := .int .i64 ((i + 1 : Nat) : Int)) (by rfl) (by rfl) (by rfl) ?_
  simp only [Z12, Z5]
  refine Z14 (Z15 ?_)
  refine Exists.intro _ ⟨?_, (i + 1), (fun q9 => (#[Z8, Z8, Z8, Z8, .int .i64 ((i : Nat) : Int), Z8, Z8, Z8, .bool true, .int .i64 ((i : Nat) : Int), .string (bs l), .int .i64 ((i : Nat) : Int), .int .u8 ((byteN l i : Nat) : Int), .int .u8 ((byteN l i / 16 : Nat) : Int), .int .u8 ((byteN digL (byteN l i / 16) : Nat) : Int), .nilIface, .string (bs l), .int .i64 ((i : Nat) : Int), .int .u8 ((byteN l i : Nat) : Int), .int .u8 ((byteN l i % 16 : Nat) : Int), .int .u8 ((byteN digL (byteN l i % 16) : Nat) : Int), .nilIface, .int .i64 ((i + 1 : Nat) : Int)] : Array Value).getD q9 Z8), rfl, rfl, M, (by omega), (by rw [show Lib.byteCells = bcells from rfl, hex_step l hi] at IB; exact IB), HB9⟩
  omega
set_option maxHeartbeats 2000000 in
theorem unhex_first  {w : World}  :
  Calls Tryd.prog 44 #[.string (bs HX)] w fun e w' => e = .returned (.tuple #[.string (bs firstL), .int .i64 0]) ∧ Below w.heap.size w w' := by
 go_enter Tryd.func44, Tryd.ntmps44
 have M := Mem.start w
 refine Z9 (fun K1 hK1 => ?_)
 refine Z13 ?_
 refine Z18 (v := .string (bs ([]))) (by rfl) (by rfl) (by rfl) ?_
 simp only [Z12, Z5]
 refine Z18 (v := .int .i64 0) (by rfl) (by rfl) (by rfl) ?_
 simp only [Z12, Z5]
 refine Z14 (Z15 ?_)
 refine hK1 _ _ ?_
 refine Z9 (fun K3 hK3 => ?_)
 refine Z13 ?_
 refine Z18 (v := (.slice none 0 0)) (by rfl) (by rfl) (by rfl) ?_
 simp only [Z12, Z5]
 refine Z14 (Z15 ?_)
 refine hK3 _ _ ?_
 refine Z9 (fun K5 hK5 => ?_)
 refine wp_block ?_
 refine wp_loop_peel (fun n9 a9 W9 => ∃ (i : Nat) (r : Nat) (rc : Nat) (u6 : Nat → Value), n9 = 2 * (32 - i) ∧ a9 = { tmps := #[.string (bs (HX.drop (2 * i))), Z8, u6 2, u6 3, .slice (some ⟨r, 0, none⟩) i rc, u6 5, u6 6, u6 7, u6 8, u6 9, u6 10, u6 11, u6 12, u6 13, u6 14, u6 15, u6 16, u6 17, u6 18, u6 19, u6 20, u6 21, u6 22, u6 23, u6 24, u6 25, u6 26, u6 27, u6 28, u6 29, u6 30, u6 31, Z8, Z8, Z8, Z8], defers := [] } ∧ Mem [] w W9 [⟨r, rc, [(0, bcells (firstL.take i))]⟩] ∧ i ≤ rc ∧ (1 ≤ i) ∧ (i ≤ 32)) (2 * (32 - (1)) + 1) ?_ (fun n9 a9 W9 hI => ?_)
 ·
  refine Z9 (fun K7 hK7 => ?_)
  refine Z9 (fun K8 hK8 => ?_)
  refine Z13 ?_
  refine Z17 (v := .string (bs HX)) (by rfl) (by rfl) (by rfl) ?_
  simp only [Z12, Z5]
  refine Z16 2 (by rfl) (fun Lk hLk => ?_)
  simp only [Z6, Z7]
  refine wpV_lenS (by rfl) rfl rfl rfl Tryd.underlying9 ?_
  simp only [Z12, Z5]
  refine Z20 (v := .bool true) (by rfl) rfl rfl rfl (fun W => (run_geqN HX.length 2 _ _ W).trans (by rw [(show decide (2 ≤ HX.length) = true by decide)])) ?_
  simp only [Z12, Z5]
  refine Z19 (hLk _ (fun w10 Sw10 => ?_))
  clear hLk Lk
  simp only [Z6, Z7]
  replace M := M.sees Sw10
  refine Z14 (Z15 ?_)
  refine hK8 _ _ ?_
  refine Z10 rfl ?_
  refine wp_skip ?_
  refine hK7 _ _ ?_
  refine Z9 (fun K11 hK11 => ?_)
  refine wp_block ?_
  refine Z9 (fun K12 hK12 => ?_)
  refine wp_region_grow 6 [] (by kernel_rfl) (by kernel_rfl) (by kernel_rfl) (fun Lk hLk => ?_)
  simp only [Z6, Z7]
  refine Z21 (v := .string (bs HX)) (by rfl) rfl rfl ?_
  simp only [Z12, Z5]
  refine wpV_indexb (n := 0) (by rw [hx_len]; decide) (by rfl) rfl rfl rfl Tryd.underlying9 ?_
  simp only [Z12, Z5]
  refine Z25 (v := .int .i64 ((byteN firstL 0 / 16 : Nat) : Int)) (args := #[.string (bs digL), .int .u8 ((byteN HX 0 : Nat) : Int)]) (by rfl) rfl Tryd.func81 (by kernel_rfl) (by kernel_rfl) rfl (fun W hW => (by have h9 := Tryd.strings_IndexByte (bs digL) ((byteN (HX) 0 : Nat) : Int) W; rw [show (bs digL).data.toList = digL from rfl, show Lib.indexByte digL (((byteN (HX) 0 : Nat) : Int).toNat.toUInt8) = ((byteN firstL 0 / 16 : Nat) : Int) from (hx_all 0 (by decide)).1] at h9; exact h9.mono fun e w' h => ⟨h.1, h.2 ▸ Below.refl _ _⟩)) ?_
  simp only [Z12, Z5]
  refine Z21 (v := .string (bs HX)) (by rfl) rfl rfl ?_
  simp only [Z12, Z5]
  refine wpV_indexb (n := 1) (by rw [hx_len]; decide) (by rfl) rfl rfl rfl Tryd.underlying9 ?_
  simp only [Z12, Z5]
  refine Z25 (v := .int .i64 ((byteN firstL 0 % 16 : Nat) : Int)) (args := #[.string (bs digL), .int .u8 ((byteN HX 1 : Nat) : Int)]) (by rfl) rfl Tryd.func81 (by kernel_rfl) (by kernel_rfl) rfl (fun W hW => (by have h9 := Tryd.strings_IndexByte (bs digL) ((byteN (HX) 1 : Nat) : Int) W; rw [show (bs digL).data.toList = digL from rfl, show Lib.indexByte digL (((byteN (HX) 1 : Nat) : Int).toNat.toUInt8) = ((byteN firstL 0 % 16 : Nat) : Int) from (hx_all 0 (by decide)).2] at h9; exact h9.mono fun e w' h => ⟨h.1, h.2 ▸ Below.refl _ _⟩)) ?_
  simp only [Z12, Z5]
  refine Z19 (hLk.out _ ?_)
  clear hLk Lk
  simp only [Z6, Z7]
  iterate 6 refine Z28 (by rfl) ?_
  refine Z29 (fun w14 Sw14 hbs => ?_)
  clear hbs
  replace M := M.sees Sw14
  refine Z18 (v := .int .i64 ((byteN firstL 0 / 16 : Nat) : Int)) (by rfl) (by rfl) (by rfl) ?_
  simp only [Z12, Z5]
  refine Z18 (v := .int .i64 ((byteN firstL 0 % 16 : Nat) : Int)) (by rfl) (by rfl) (by rfl) ?_
  simp only [Z12, Z5]
  refine Z14 (Z15 ?_)
  refine hK12 _ _ ?_
  refine Z9 (fun K15 hK15 => ?_)
  refine Z9 (fun K16 hK16 => ?_)
  refine Z13 ?_
  refine Z17 (v := .int .i64 ((byteN firstL 0 / 16 : Nat) : Int)) (by rfl) (by rfl) (by rfl) ?_
  simp only [Z12, Z5]
  refine Z16 5 (by rfl) (fun Lk hLk => ?_)
  simp only [Z6, Z7]
  refine Z20 (v := .bool false) (by rfl) rfl rfl rfl (fun W => (run_lssN (byteN firstL 0 / 16) 0 _ _ W).trans (by rw [(decide_eq_false (Nat.not_lt_zero _))])) ?_
  simp only [Z12, Z5]
  refine Z21 (v := .bool false) (by rfl) rfl rfl ?_
  simp only [Z12, Z5]
  refine Z21 (v := .int .i64 ((byteN firstL 0 % 16 : Nat) : Int)) (by rfl) rfl rfl ?_
  simp only [Z12, Z5]
  refine Z20 (v := .bool false) (by rfl) rfl rfl rfl (fun W => (run_lssN (byteN firstL 0 % 16) 0 _ _ W).trans (by rw [(decide_eq_false (Nat.not_lt_zero _))])) ?_
  simp only [Z12, Z5]
  refine wpV_pick (v := .bool false) (by rfl) rfl rfl rfl ?_
  simp only [Z12, Z5]
  refine Z19 (hLk _ (fun w18 Sw18 => ?_))
  clear hLk Lk
  simp only [Z6, Z7]
  replace M := M.sees Sw18
  refine Z14 (Z15 ?_)
  refine hK16 _ _ ?_
  refine Z11 rfl ?_
  refine wp_skip ?_
  refine hK15 _ _ ?_
  refine Z13 ?_
  refine Z17 (v := (.slice none 0 0)) (by rfl) (by rfl) (by rfl) ?_
  simp only [Z12, Z5]
  refine Z17 (v := .int .i64 ((byteN firstL 0 / 16 : Nat) : Int)) (by rfl) (by rfl) (by rfl) ?_
  simp only [Z12, Z5]
  refine Z16 4 (by rfl) (fun Lk hLk => ?_)
  simp only [Z6, Z7]
  refine Z20 (v := .int .i64 ((byteN firstL 0 / 16 * 16 : Nat) : Int)) (by rfl) rfl rfl rfl (fun W => run_shl (m := byteN firstL 0 / 16) (n := 4) (by decide) (by have h9 := byteN_lt firstL 0; simp only [IntKind.wrap_i64]; omega) W) ?_
  simp only [Z12, Z5]
  refine Z21 (v := .int .i64 ((byteN firstL 0 % 16 : Nat) : Int)) (by rfl) rfl rfl ?_
  simp only [Z12, Z5]
  refine Z20 (v := .int .i64 ((byteN firstL 0 : Nat) : Int)) (by rfl) rfl rfl rfl (fun W => run_or (by have h9 := byteN_lt firstL 0; have h8 := or4_fin ⟨byteN firstL 0 / 16, by omega⟩ ⟨byteN firstL 0 % 16, by omega⟩; simp only at h8; rw [show byteN firstL 0 / 16 * 16 + byteN firstL 0 % 16 = byteN firstL 0 by omega] at h8; exact h8) W) ?_
  simp only [Z12, Z5]
  refine wpV_conv (d := .bool) (e := ((byteN firstL 0 : Nat) : Int)) (by rfl) rfl rfl (run_conv_int Tryd.underlying3 Tryd.underlying5 (by have h9 := byteN_lt firstL 0; rw [wrap_u8N]; omega)) ?_
  simp only [Z12, Z5]
  refine Z19 (hLk _ (fun w20 Sw20 => ?_))
  clear hLk Lk
  simp only [Z6, Z7]
  replace M := M.sees Sw20
  refine wpL_rowN (vs := [.int .u8 ((byteN firstL 0 : Nat) : Int)]) (z := .int .u8 0) (bytes := 1) (by rfl) (by rfl) Tryd.underlying29 (by kernel_rfl) (by decide) (by kernel_rfl) (fun g21 w22 Sw22 Hg21 Bg21 => ?_)
  replace M := ((M.sees Sw22).add (N := 1) (cs := [.int .u8 ((byteN firstL 0 : Nat) : Int)]) (M.ge Hg21) (M.fresh Hg21) Bg21 rfl)
  clear Bg21
  simp only [Z12, Z5]
  refine wpL_append0 (m := 1) (news := [.int .u8 ((byteN firstL 0 : Nat) : Int)]) (z := .int .u8 0) (bytes := 1) (by rfl) (by rfl) (by rfl) (by rfl) Tryd.underlying29 (by kernel_rfl) rfl rfl (by decide) (M.r 0 0 rfl rfl) (by decide) (by decide) (fun g23 g23c w24 Sw24 Hg23 Cg23 R T L => ?_)
  replace M := (M.sees Sw24).addR (M.ge Hg23) (M.fresh Hg23) T R L
  clear T R L
  rw [show [.int .u8 ((byteN firstL 0 : Nat) : Int)] = bcells (firstL.take 1) from rfl] at M
  simp only [Z12, Z5]
  refine Z18 (v := .slice (some ⟨g23, 0, none⟩) 1 g23c) (by rfl) (by rfl) (by rfl) ?_
  simp only [Z12, Z5]
  refine Z14 (Z15 ?_)
  refine hK11 _ _ ?_
  refine Z13 ?_
  refine Z17 (v := .string (bs HX)) (by rfl) (by rfl) (by rfl) ?_
  simp only [Z12, Z5]
  refine Z16 1 (by rfl) (fun Lk hLk => ?_)
  simp only [Z6, Z7]
  refine wpV_drop (l := HX) (lo := 2) (by rfl) rfl rfl rfl Tryd.underlying9 (by rw [hx_len]; decide) ?_
  simp only [Z12, Z5]
  refine Z19 (hLk _ (fun w26 Sw26 => ?_))
  clear hLk Lk
  simp only [Z6, Z7]
  replace M := M.sees Sw26
  refine Z18 (v := .string (bs (HX.drop 2))) (by rfl) (by rfl) (by rfl) ?_
  simp only [Z12, Z5]
  refine Z14 (Z15 ?_)
  refine Exists.intro _ ⟨Nat.lt_succ_self _, 1, g23, g23c, (fun q9 => (#[Z8, Z8, .string (bs ([])), .int .i64 0, Z8, .int .i64 ((byteN firstL 0 / 16 : Nat) : Int), .int .i64 ((byteN firstL 0 % 16 : Nat) : Int), .string (bs HX), .int .i64 ((HX.length : Nat) : Int), .bool true, .string (bs HX), .string (bs (HX.drop 2)), .string (bs HX), .int .u8 ((byteN HX 0 : Nat) : Int), .int .i64 ((byteN firstL 0 / 16 : Nat) : Int), .string (bs HX), .int .u8 ((byteN HX 1 : Nat) : Int), .int .i64 ((byteN firstL 0 % 16 : Nat) : Int), .int .i64 ((byteN firstL 0 / 16 : Nat) : Int), .bool false, .bool false, .int .i64 ((byteN firstL 0 % 16 : Nat) : Int), .bool false, .bool false, (.slice none 0 0), .int .i64 ((byteN firstL 0 / 16 : Nat) : Int), .int .i64 ((byteN firstL 0 / 16 * 16 : Nat) : Int), .int .i64 ((byteN firstL 0 % 16 : Nat) : Int), .int .i64 ((byteN firstL 0 : Nat) : Int), .int .u8 ((byteN firstL 0 : Nat) : Int), .slice (some ⟨g21, 0, none⟩) 1 1, .slice (some ⟨g23, 0, none⟩) 1 g23c] : Array Value).getD q9 Z8), rfl, rfl, (M.pick [0] (by decide) rfl), Cg23, (by decide), (by decide)⟩
 clear M
 obtain ⟨i, r, rc, u6, rfl, rfl, M, Cr, hi1, hi4⟩ := hI
 obtain ⟨w27, rfl⟩ : ∃ W8, W8 = W9 := ⟨_, rfl⟩
 refine Z9 (fun K28 hK28 => ?_)
 refine Z9 (fun K29 hK29 => ?_)
 refine Z13 ?_
 refine Z17 (v := .string (bs (HX.drop (2 * i)))) (by rfl) (by rfl) (by rfl) ?_
 simp only [Z12, Z5]
 refine Z16 2 (by rfl) (fun Lk hLk => ?_)
 simp only [Z6, Z7]
 refine wpV_lenS (by rfl) rfl rfl rfl Tryd.underlying9 ?_
 simp only [Z12, Z5]
 refine Z20 (v := .bool (decide (2 ≤ (HX.drop (2 * i)).length))) (by rfl) rfl rfl rfl (fun W => run_geqN ((HX.drop (2 * i)).length) 2 _ _ W) ?_
 simp only [Z12, Z5]
 refine Z19 (hLk _ (fun w31 Sw31 => ?_))
 clear hLk Lk
 simp only [Z6, Z7]
 replace M := M.sees Sw31
 refine Z14 (Z15 ?_)
 refine hK29 _ _ ?_
 cases hc32 : (decide (2 ≤ (HX.drop (2 * i)).length))
 ·
  have e32 : i = 32 := by have h9 := of_decide_eq_false hc32; rw [List.length_drop, hx_len] at h9; omega
  subst e32
  refine Z11 rfl ?_
  refine wp_exit ?_
  refine hK5 _ _ ?_
  refine Z9 (fun K33 hK33 => ?_)
  refine Z9 (fun K34 hK34 => ?_)
  refine Z13 ?_
  refine Z17 (v := .string (bs (HX.drop (2 * 32)))) (by rfl) (by rfl) (by rfl) ?_
  simp only [Z12, Z5]
  refine Z16 1 (by rfl) (fun Lk hLk => ?_)
  simp only [Z6, Z7]
  refine wpV_binS (v := .bool false) (by rfl) rfl rfl rfl (fun W => (run_neq_bs _ _ _ W).trans (by rw [(show decide (HX.drop (2 * 32) ≠ []) = false by decide)])) ?_
  simp only [Z12, Z5]
  refine Z19 (hLk _ (fun w36 Sw36 => ?_))
  clear hLk Lk
  simp only [Z6, Z7]
  replace M := M.sees Sw36
  refine Z14 (Z15 ?_)
  refine hK34 _ _ ?_
  refine Z11 rfl ?_
  refine wp_skip ?_
  refine hK33 _ _ ?_
  refine Z9 (fun K37 hK37 => ?_)
  refine Z13 ?_
  refine Z17 (v := .slice (some ⟨r, 0, none⟩) 32 rc) (by rfl) (by rfl) (by rfl) ?_
  simp only [Z12, Z5]
  refine Z16 1 (by rfl) (fun Lk hLk => ?_)
  simp only [Z6, Z7]
  refine wpV_b2s (l := (firstL.take 32)) (by rfl) rfl rfl (by decide) Tryd.underlying29 Tryd.underlying5 Tryd.underlying9 (M.r 0 0 rfl rfl) (M.lt 0 rfl) ?_
  simp only [Z12, Z5]
  refine Z19 (hLk _ (fun w39 Sw39 => ?_))
  clear hLk Lk
  simp only [Z6, Z7]
  replace M := M.sees Sw39
  refine Z18 (v := .string (bs (firstL.take 32))) (by rfl) (by rfl) (by rfl) ?_
  simp only [Z12, Z5]
  refine Z18 (v := .int .i64 0) (by rfl) (by rfl) (by rfl) ?_
  simp only [Z12, Z5]
  refine Z14 (Z15 ?_)
  refine hK37 _ _ ?_
  refine wp_ret ?_
  repeat (first | with_reducible refine then_ret ?_ | with_reducible refine inblock_ret ?_)
  refine bodyPost_ret (v := .tuple #[.string (bs (firstL.take 32)), .int .i64 0]) (res2 rfl (.tmp (by rfl)) (.tmp (by rfl))) rfl ?_
  have BE := M.below
  exact ⟨by rw [show firstL.take 32 = firstL from rfl], BE⟩
 ·
  have hi : i < 32 := by have h9 := of_decide_eq_true hc32; rw [List.length_drop, hx_len] at h9; omega
  have hb9 := byteN_lt firstL i
  refine Z10 rfl ?_
  refine wp_skip ?_
  refine hK28 _ _ ?_
  refine Z9 (fun K40 hK40 => ?_)
  refine wp_block ?_
  refine Z9 (fun K41 hK41 => ?_)
  refine wp_region_grow 6 [] (by kernel_rfl) (by kernel_rfl) (by kernel_rfl) (fun Lk hLk => ?_)
  simp only [Z6, Z7]
  refine Z21 (v := .string (bs (HX.drop (2 * i)))) (by rfl) rfl rfl ?_
  simp only [Z12, Z5]
  refine wpV_indexb (n := 0) (by rw [List.length_drop, hx_len]; omega) (by rfl) rfl rfl rfl Tryd.underlying9 ?_
  simp only [Z12, Z5]
  refine Z25 (v := .int .i64 ((byteN firstL i / 16 : Nat) : Int)) (args := #[.string (bs digL), .int .u8 ((byteN (HX.drop (2 * i)) 0 : Nat) : Int)]) (by rfl) rfl Tryd.func81 (by kernel_rfl) (by kernel_rfl) rfl (fun W hW => (by have h9 := Tryd.strings_IndexByte (bs digL) ((byteN (HX.drop (2 * i)) 0 : Nat) : Int) W; rw [show (bs digL).data.toList = digL from rfl, show Lib.indexByte digL (((byteN (HX.drop (2 * i)) 0 : Nat) : Int).toNat.toUInt8) = ((byteN firstL i / 16 : Nat) : Int) from (hx_all i hi).1] at h9; exact h9.mono fun e w' h => ⟨h.1, h.2 ▸ Below.refl _ _⟩)) ?_
  simp only [Z12, Z5]
  refine Z21 (v := .string (bs (HX.drop (2 * i)))) (by rfl) rfl rfl ?_
  simp only [Z12, Z5]
  refine wpV_indexb (n := 1) (by rw [List.length_drop, hx_len]; omega) (by rfl) rfl rfl rfl Tryd.underlying9 ?_
  simp only [Z12, Z5]
  refine Z25 (v := .int .i64 ((byteN firstL i % 16 : Nat) : Int)) (args := #[.string (bs digL), .int .u8 ((byteN (HX.drop (2 * i)) 1 : Nat) : Int)]) (by rfl) rfl Tryd.func81 (by kernel_rfl) (by kernel_rfl) rfl (fun W hW => (by have h9 := Tryd.strings_IndexByte (bs digL) ((byteN (HX.drop (2 * i)) 1 : Nat) : Int) W; rw [show (bs digL).data.toList = digL from rfl, show Lib.indexByte digL (((byteN (HX.drop (2 * i)) 1 : Nat) : Int).toNat.toUInt8) = ((byteN firstL i % 16 : Nat) : Int) from (hx_all i hi).2] at h9; exact h9.mono fun e w' h => ⟨h.1, h.2 ▸ Below.refl _ _⟩)) ?_
  simp only [Z12, Z5]
  refine Z19 (hLk.out _ ?_)
  clear hLk Lk
  simp only [Z6, Z7]
  iterate 6 refine Z28 (by rfl) ?_
  refine Z29 (fun w43 Sw43 hbs => ?_)
  clear hbs
  replace M := M.sees Sw43
  refine Z18 (v := .int .i64 ((byteN firstL i / 16 : Nat) : Int)) (by rfl) (by rfl) (by rfl) ?_
  simp only [Z12, Z5]
  refine Z18 (v := .int .i64 ((byteN firstL i % 16 : Nat) : Int)) (by rfl) (by rfl) (by rfl) ?_
  simp only [Z12, Z5]
  refine Z14 (Z15 ?_)
  refine hK41 _ _ ?_
  refine Z9 (fun K44 hK44 => ?_)
  refine Z9 (fun K45 hK45 => ?_)
  refine Z13 ?_
  refine Z17 (v := .int .i64 ((byteN firstL i / 16 : Nat) : Int)) (by rfl) (by rfl) (by rfl) ?_
  simp only [Z12, Z5]
  refine Z16 5 (by rfl) (fun Lk hLk => ?_)
  simp only [Z6, Z7]
  refine Z20 (v := .bool false) (by rfl) rfl rfl rfl (fun W => (run_lssN (byteN firstL i / 16) 0 _ _ W).trans (by rw [(decide_eq_false (Nat.not_lt_zero _))])) ?_
  simp only [Z12, Z5]
  refine Z21 (v := .bool false) (by rfl) rfl rfl ?_
  simp only [Z12, Z5]
  refine Z21 (v := .int .i64 ((byteN firstL i % 16 : Nat) : Int)) (by rfl) rfl rfl ?_
  simp only [Z12, Z5]
  refine Z20 (v := .bool false) (by rfl) rfl rfl rfl (fun W => (run_lssN (byteN firstL i % 16) 0 _ _ W).trans (by rw [(decide_eq_false (Nat.not_lt_zero _))])) ?_
  simp only [Z12, Z5]
  refine wpV_pick (v := .bool false) (by rfl) rfl rfl rfl ?_
  simp only [Z12, Z5]
  refine Z19 (hLk _ (fun w47 Sw47 => ?_))
  clear hLk Lk
  simp only [Z6, Z7]
  replace M := M.sees Sw47
  refine Z14 (Z15 ?_)
  refine hK45 _ _ ?_
  refine Z11 rfl ?_
  refine wp_skip ?_
  refine hK44 _ _ ?_
  refine Z13 ?_
  refine Z17 (v := .slice (some ⟨r, 0, none⟩) i rc) (by rfl) (by rfl) (by rfl) ?_
  simp only [Z12, Z5]
  refine Z17 (v := .int .i64 ((byteN firstL i / 16 : Nat) : Int)) (by rfl) (by rfl) (by rfl) ?_
  simp only [Z12, Z5]
  refine Z16 4 (by rfl) (fun Lk hLk => ?_)
  simp only [Z6, Z7]
  refine Z20 (v := .int .i64 ((byteN firstL i / 16 * 16 : Nat) : Int)) (by rfl) rfl rfl rfl (fun W => run_shl (m := byteN firstL i / 16) (n := 4) (by decide) (by have h9 := byteN_lt firstL i; simp only [IntKind.wrap_i64]; omega) W) ?_
  simp only [Z12, Z5]
  refine Z21 (v := .int .i64 ((byteN firstL i % 16 : Nat) : Int)) (by rfl) rfl rfl ?_
  simp only [Z12, Z5]
  refine Z20 (v := .int .i64 ((byteN firstL i : Nat) : Int)) (by rfl) rfl rfl rfl (fun W => run_or (by have h9 := byteN_lt firstL i; have h8 := or4_fin ⟨byteN firstL i / 16, by omega⟩ ⟨byteN firstL i % 16, by omega⟩; simp only at h8; rw [show byteN firstL i / 16 * 16 + byteN firstL i % 16 = byteN firstL i by omega] at h8; exact h8) W) ?_
  simp only [Z12, Z5]
  refine wpV_conv (d := .bool) (e := ((byteN firstL i : Nat) : Int)) (by rfl) rfl rfl (run_conv_int Tryd.underlying3 Tryd.underlying5 (by have h9 := byteN_lt firstL i; rw [wrap_u8N]; omega)) ?_
  simp only [Z12, Z5]
  refine Z19 (hLk _ (fun w49 Sw49 => ?_))
  clear hLk Lk
  simp only [Z6, Z7]
  replace M := M.sees Sw49
  refine wpL_rowN (vs := [.int .u8 ((byteN firstL i : Nat) : Int)]) (z := .int .u8 0) (bytes := 1) (by rfl) (by rfl) Tryd.underlying29 (by kernel_rfl) (by decide) (by kernel_rfl) (fun g50 w51 Sw51 Hg50 Bg50 => ?_)
  replace M := ((M.sees Sw51).add (N := 1) (cs := [.int .u8 ((byteN firstL i : Nat) : Int)]) (M.ge Hg50) (M.fresh Hg50) Bg50 rfl)
  clear Bg50
  simp only [Z12, Z5]
  refine wpL_append (n := i) (m := 1) (olds := bcells (firstL.take i)) (news := [.int .u8 ((byteN firstL i : Nat) : Int)]) (z := .int .u8 0) (bytes := 1) (by rfl) (by rfl) (by rfl) (by rfl) Tryd.underlying29 (by kernel_rfl) rfl rfl (by rw [bcells_len, List.length_take]; show min i 32 = i; omega) (by rfl) (M.r 1 0 rfl rfl) (M.t 1 rfl) (M.lt 1 rfl) (M.r 0 0 rfl rfl) (by simp [Value.oneCell']) (by omega) (by unfold maxLen; omega) (fun g52 g52c w53 Sw53 Q Cg52 R T L => ?_)
  replace M := M.grow 1 rfl Sw53 Q R T L
  simp only [Z5] at M
  clear Q R T L
  rw [first_byte hi] at M
  simp only [Z12, Z5]
  refine Z18 (v := .slice (some ⟨g52, 0, none⟩) (i + 1) g52c) (by rfl) (by rfl) (by rfl) ?_
  simp only [Z12, Z5]
  refine Z14 (Z15 ?_)
  refine hK40 _ _ ?_
  refine Z13 ?_
  refine Z17 (v := .string (bs (HX.drop (2 * i)))) (by rfl) (by rfl) (by rfl) ?_
  simp only [Z12, Z5]
  refine Z16 1 (by rfl) (fun Lk hLk => ?_)
  simp only [Z6, Z7]
  refine wpV_drop (l := HX.drop (2 * i)) (lo := 2) (by rfl) rfl rfl rfl Tryd.underlying9 (by rw [List.length_drop, hx_len]; omega) ?_
  simp only [Z12, Z5]
  refine Z19 (hLk _ (fun w55 Sw55 => ?_))
  clear hLk Lk
  simp only [Z6, Z7]
  replace M := M.sees Sw55
  refine Z18 (v := .string (bs ((HX.drop (2 * i)).drop 2))) (by rfl) (by rfl) (by rfl) ?_
  simp only [Z12, Z5]
  refine Z14 (Z15 ?_)
  rw [show (HX.drop (2 * i)).drop 2 = HX.drop (2 * (i + 1)) by rw [List.drop_drop]; rfl]
  refine Exists.intro _ ⟨?_, (i + 1), g52, g52c, (fun q9 => (#[Z8, Z8, u6 2, u6 3, Z8, .int .i64 ((byteN firstL i / 16 : Nat) : Int), .int .i64 ((byteN firstL i % 16 : Nat) : Int), .string (bs (HX.drop (2 * i))), .int .i64 (((HX.drop (2 * i)).length : Nat) : Int), .bool true, .string (bs (HX.drop (2 * i))), .string (bs (HX.drop (2 * (i + 1)))), .string (bs (HX.drop (2 * i))), .int .u8 ((byteN (HX.drop (2 * i)) 0 : Nat) : Int), .int .i64 ((byteN firstL i / 16 : Nat) : Int), .string (bs (HX.drop (2 * i))), .int .u8 ((byteN (HX.drop (2 * i)) 1 : Nat) : Int), .int .i64 ((byteN firstL i % 16 : Nat) : Int), .int .i64 ((byteN firstL i / 16 : Nat) : Int), .bool false, .bool false, .int .i64 ((byteN firstL i % 16 : Nat) : Int), .bool false, .bool false, .slice (some ⟨r, 0, none⟩) i rc, .int .i64 ((byteN firstL i / 16 : Nat) : Int), .int .i64 ((byteN firstL i / 16 * 16 : Nat) : Int), .int .i64 ((byteN firstL i % 16 : Nat) : Int), .int .i64 ((byteN firstL i : Nat) : Int), .int .u8 ((byteN firstL i : Nat) : Int), .slice (some ⟨g50, 0, none⟩) 1 1, .slice (some ⟨g52, 0, none⟩) (i + 1) g52c] : Array Value).getD q9 Z8), rfl, rfl, (M.pick [1] (by decide) rfl), Cg52, (by omega), (by omega)⟩
  omega
set_option maxHeartbeats 1000000 in
theorem first07_c  {w : World}  :
  Calls Tryd.prog 15 #[] w fun e w' => e = .returned (.string (bs firstL)) ∧ Below w.heap.size w w' := by
 go_enter Tryd.func15, Tryd.ntmps15
 have M := Mem.start w
 refine Z9 (fun K1 hK1 => ?_)
 refine Z13 ?_
 refine Z18 (v := .string (bs ([]))) (by rfl) (by rfl) (by rfl) ?_
 simp only [Z12, Z5]
 refine Z14 (Z15 ?_)
 refine hK1 _ _ ?_
 refine Z9 (fun K3 hK3 => ?_)
 refine Z13 ?_
 refine Z16 4 (by rfl) (fun Lk hLk => ?_)
 simp only [Z6, Z7]
 refine Z25 (v := .tuple #[.string (bs firstL), .int .i64 0]) (args := #[.string (bs HX)]) (by rfl) rfl Tryd.func44 (by kernel_rfl) (by kernel_rfl) rfl (fun W hW => unhex_first) ?_
 simp only [Z12, Z5]
 refine Z21 (v := .tuple #[.string (bs firstL), .int .i64 0]) (by rfl) rfl rfl ?_
 simp only [Z12, Z5]
 refine Z32 (v := .string (bs firstL)) (by rfl) rfl rfl rfl ?_
 simp only [Z12, Z5]
 refine Z32 (v := .int .i64 0) (by rfl) rfl rfl rfl ?_
 simp only [Z12, Z5]
 refine Z19 (hLk _ (fun w5 Sw5 => ?_))
 clear hLk Lk
 simp only [Z6, Z7]
 replace M := M.sees Sw5
 refine Z18 (v := .string (bs firstL)) (by rfl) (by rfl) (by rfl) ?_
 simp only [Z12, Z5]
 refine Z18 (v := .int .i64 0) (by rfl) (by rfl) (by rfl) ?_
 simp only [Z12, Z5]
 refine Z14 (Z15 ?_)
 refine hK3 _ _ ?_
 refine Z9 (fun K6 hK6 => ?_)
 refine Z13 ?_
 refine Z17 (v := .string (bs firstL)) (by rfl) (by rfl) (by rfl) ?_
 simp only [Z12, Z5]
 refine Z18 (v := .string (bs firstL)) (by rfl) (by rfl) (by rfl) ?_
 simp only [Z12, Z5]
 refine Z14 (Z15 ?_)
 refine hK6 _ _ ?_
 refine wp_ret ?_
 repeat (first | with_reducible refine then_ret ?_ | with_reducible refine inblock_ret ?_)
 refine bodyPost_ret (v := .string (bs firstL)) (res1 rfl (.tmp (by rfl))) rfl ?_
 have BE := M.below
 exact ⟨rfl, BE⟩
set_option maxHeartbeats 1000000 in
theorem alive07_c  {w : World} (L2 : 2 < w.heap.size) (R2_0 : w.rangeAt 2 0 kcellsq) :
  Calls Tryd.prog 19 #[] w fun e w' => e = .returned (.bool true) ∧ Below w.heap.size w w' := by
 go_enter Tryd.func19, Tryd.ntmps19
 have M := Mem.start w
 refine Z9 (fun K1 hK1 => ?_)
 refine Z13 ?_
 refine Z18 (v := .bool false) (by rfl) (by rfl) (by rfl) ?_
 simp only [Z12, Z5]
 refine Z14 (Z15 ?_)
 refine hK1 _ _ ?_
 refine Z9 (fun K3 hK3 => ?_)
 refine Z13 ?_
 refine Z16 5 (by rfl) (fun Lk hLk => ?_)
 simp only [Z6, Z7]
 refine Z25 (v := .string (bs firstL)) (args := #[]) (by rfl) rfl Tryd.func15 (by kernel_rfl) (by kernel_rfl) rfl (fun W hW => first07_c) ?_
 simp only [Z12, Z5]
 refine Z25 (v := .tuple #[.string (bs (edT (edN firstL))), .int .i64 0]) (args := #[.string (bs firstL)]) (by rfl) rfl Tryd.func16 (by kernel_rfl) (by kernel_rfl) rfl (fun W hW => (Public_ok (w := W) (by decide) ((M.sees hW).oldL L2) ((M.sees hW).oldR R2_0 L2))) ?_
 simp only [Z12, Z5]
 refine Z21 (v := .tuple #[.string (bs (edT (edN firstL))), .int .i64 0]) (by rfl) rfl rfl ?_
 simp only [Z12, Z5]
 refine Z32 (v := .string (bs (edT (edN firstL)))) (by rfl) rfl rfl rfl ?_
 simp only [Z12, Z5]
 refine Z32 (v := .int .i64 0) (by rfl) rfl rfl rfl ?_
 simp only [Z12, Z5]
 refine Z19 (hLk _ (fun w5 Sw5 => ?_))
 clear hLk Lk
 simp only [Z6, Z7]
 replace M := M.sees Sw5
 refine Z18 (v := .string (bs (edT (edN firstL)))) (by rfl) (by rfl) (by rfl) ?_
 simp only [Z12, Z5]
 refine Z18 (v := .int .i64 0) (by rfl) (by rfl) (by rfl) ?_
 simp only [Z12, Z5]
 refine Z14 (Z15 ?_)
 refine hK3 _ _ ?_
 refine Z9 (fun K6 hK6 => ?_)
 refine Z13 ?_
 refine Z17 (v := .int .i64 0) (by rfl) (by rfl) (by rfl) ?_
 simp only [Z12, Z5]
 refine Z16 12 (by rfl) (fun Lk hLk => ?_)
 simp only [Z6, Z7]
 refine Z20 (v := .bool true) (by rfl) rfl rfl rfl (fun W => run_eql _ _ _ _ W) ?_
 simp only [Z12, Z5]
 refine Z21 (v := .bool true) (by rfl) rfl rfl ?_
 simp only [Z12, Z5]
 refine Z21 (v := .string (bs (edT (edN firstL)))) (by rfl) rfl rfl ?_
 simp only [Z12, Z5]
 refine wpV_lenS (by rfl) rfl rfl rfl Tryd.underlying9 ?_
 simp only [Z12, Z5]
 refine Z20 (v := .bool true) (by rfl) rfl rfl rfl (fun W => (run_eqlN ((edT (edN firstL)).length) 32 _ _ W).trans (by rw [(decide_eq_true (edT_len _))])) ?_
 simp only [Z12, Z5]
 refine wpV_pick (v := .bool true) (by rfl) rfl rfl rfl ?_
 simp only [Z12, Z5]
 refine Z21 (v := .bool true) (by rfl) rfl rfl ?_
 simp only [Z12, Z5]
 refine Z21 (v := .string (bs (edT (edN firstL)))) (by rfl) rfl rfl ?_
 simp only [Z12, Z5]
 refine wpV_takeS (l := edT (edN firstL)) (hi := 4) (by rfl) rfl rfl rfl Tryd.underlying9 (by rw [edT_len]; decide) ?_
 simp only [Z12, Z5]
 refine Z25 (v := .string (bs (hexL ((edT (edN firstL)).take 4)))) (args := #[.string (bs ((edT (edN firstL)).take 4))]) (by rfl) rfl Tryd.func58 (by kernel_rfl) (by kernel_rfl) rfl (fun W hW => hex_c (l := (edT (edN firstL)).take 4) (by rw [List.length_take]; omega)) ?_
 simp only [Z12, Z5]
 refine wpV_binS (v := .bool true) (by rfl) rfl rfl rfl (fun W => (run_eql_bs _ _ _ W).trans (by rw [(decide_eq_true (by rw [first_key]; decide))])) ?_
 simp only [Z12, Z5]
 refine wpV_pick (v := .bool true) (by rfl) rfl rfl rfl ?_
 simp only [Z12, Z5]
 refine Z19 (hLk _ (fun w8 Sw8 => ?_))
 clear hLk Lk
 simp only [Z6, Z7]
 replace M := M.sees Sw8
 refine Z18 (v := .bool true) (by rfl) (by rfl) (by rfl) ?_
 simp only [Z12, Z5]
 refine Z14 (Z15 ?_)
 refine hK6 _ _ ?_
 refine wp_ret ?_
 repeat (first | with_reducible refine then_ret ?_ | with_reducible refine inblock_ret ?_)
 refine bodyPost_ret (v := .bool true) (res1 rfl (.tmp (by rfl))) rfl ?_
 have BE := M.below
 exact ⟨rfl, BE⟩
end Go.Proofs.Yc

