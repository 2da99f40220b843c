import Derived.Test.YtpgpjoldelobdaaDoorProg
import Derived.Test.YtpgpjoldelobdaaDoorShq
import Derived.Shelf.Strings.Builder1
import Derived.Test.YtpgpjoldelobdaaDoorShelfYtpgpjoldelobdaaDoor
import Derived.Test.YtpgpjoldelobdaaDoorF3
import Derived.WalkKit
import Derived.WalkSpells
import Derived.Laws.Pointers
import Derived.RowKit3
import Derived.Below
import Derived.Outline
import Derived.LoopN
import Derived.Lib.Hide
import Derived.Handy
import Derived.Laws.Bits64b
set_option linter.unusedSimpArgs false
set_option linter.unusedVariables false
namespace Go.Proofs.Yc
open Go Go.RowKit Go.Shelf Go.Proofs.Num
open Tryd renaming func103 → G9103, underlying105 → U9105, underlying107 → U9107, underlying185 → U9185, underlying29 → U929, underlying4 → U94, underlying5 → U95, underlying9 → U99
set_option maxHeartbeats 1000000 in
set_option maxRecDepth 100000 in
theorem copyCheck_used (b : Nat) (w : World) (h0 : w.cell? ⟨b, 0, none⟩ = some (.pointer (some ⟨b, 0, none⟩))) :
  Calls Tryd.prog 103 #[.pointer (some ⟨b, 0, none⟩)] w fun e w' => e = .returned (.tuple #[]) ∧ w' = w := by
 obtain ⟨j, hj, _⟩ := Option.map_eq_some_iff.1 (show (Tryd.prog.info? 107).map (·.size) = some 2 by kernel_rfl)
 have mixed : Tryd.prog.follows .mixedOrders = true := by kernel_rfl
 have t107 := U9107; have a107 := Tryd.isAgg107; have z107 := Tryd.sizeOf107; have v107 := Tryd.zeroValue107; have u107 := run_underlying U9107
 have t105 := U9105; have a105 := Tryd.isAgg105; have z105 := Tryd.sizeOf105; have v105 := Tryd.zeroValue105; have u105 := run_underlying U9105
 have t9 := U99; have a9 := Tryd.isAgg9; have z9 := Tryd.sizeOf9; have v9 := Tryd.zeroValue9; have u9 := run_underlying U99
 have t4 := U94; have a4 := Tryd.isAgg4; have z4 := Tryd.sizeOf4; have v4 := Tryd.zeroValue4; have u4 := run_underlying U94
 have t185 := U9185; have a185 := Tryd.isAgg185; have z185 := Tryd.sizeOf185; have v185 := Tryd.zeroValue185; have u185 := run_underlying U9185
 go_enter G9103, Tryd.ntmps103
 go_wp2
 rw [Lib.run_neq_ptr_same w _ U9105 hj]
 go_wp2
 go_end0
 exact ⟨rfl, rfl⟩
set_option maxHeartbeats 1000000 in
set_option maxRecDepth 100000 in
theorem copyCheck_fresh (b : Nat) (w : World) (h0 : w.cell? ⟨b, 0, none⟩ = some (.pointer none)) (hsh : w.shape? b = some (107, 2)) (hfz : w.frozen? ⟨b, 0, none⟩ = false) :
  Calls Tryd.prog 103 #[.pointer (some ⟨b, 0, none⟩)] w fun e w' => e = .returned (.tuple #[]) ∧ w' = w.setCell ⟨b, 0, none⟩ (.pointer (some ⟨b, 0, none⟩)) := by
 obtain ⟨j, hj, hjs⟩ := Option.map_eq_some_iff.1 (show (Tryd.prog.info? 107).map (·.size) = some 2 by kernel_rfl)
 have mixed : Tryd.prog.follows .mixedOrders = true := by kernel_rfl
 have t107 := U9107; have a107 := Tryd.isAgg107; have z107 := Tryd.sizeOf107; have v107 := Tryd.zeroValue107; have u107 := run_underlying U9107
 have t105 := U9105; have a105 := Tryd.isAgg105; have z105 := Tryd.sizeOf105; have v105 := Tryd.zeroValue105; have u105 := run_underlying U9105
 have t9 := U99; have a9 := Tryd.isAgg9; have z9 := Tryd.sizeOf9; have v9 := Tryd.zeroValue9; have u9 := run_underlying U99
 have t4 := U94; have a4 := Tryd.isAgg4; have z4 := Tryd.sizeOf4; have v4 := Tryd.zeroValue4; have u4 := run_underlying U94
 have t185 := U9185; have a185 := Tryd.isAgg185; have z185 := Tryd.sizeOf185; have v185 := Tryd.zeroValue185; have u185 := run_underlying U9185
 go_enter G9103, Tryd.ntmps103
 go_wp2
 rw [Lib.run_to_unsafe w ⟨b, 0, none⟩ U9105 U9185 hj (by rw [hjs]; decide) hsh (Nat.zero_lt_succ 1)]
 simp only [Result.andThen]
 rw [Oper.upon_value]
 go_wp2
 rw [run_callFunc_extern Tryd.func136 (by kernel_rfl) (by kernel_rfl) (by kernel_rfl) (e := Extern.AbiNoEscape.same) (by kernel_rfl)]
 rw [Lib.run_noEscape]
 simp only [Result.andThen]
 rw [Oper.upon_value]
 go_wp2
 rw [Lib.run_from_unsafe w ⟨b, 0, none⟩ U9185 U9105 hj hsh (by kernel_rfl)]
 simp only [Result.andThen]
 rw [Oper.upon_value]
 go_wp2
 go_end0
 exact ⟨rfl, rfl⟩
theorem copyCheck_c (B b : Nat) (bs : List Value) (w : World) (h : Lib.IsBuilder 107 5 B b bs w) :
  Calls Tryd.prog 103 #[.pointer (some ⟨b, 0, none⟩)] w fun e w' => e = .returned (.tuple #[]) ∧ (Lib.BuilderAt 107 5 B b (.pointer (some ⟨b, 0, none⟩)) bs w' ∧ Below B w w') := by
 rcases h with h | h
 ·
  refine (copyCheck_fresh b w h.cell0 h.shape h.frozen0).mono ?_
  rintro e w' ⟨rfl, rfl⟩
  exact ⟨rfl, h.used _, (Below.refl B w).setCell (p := ⟨b, 0, none⟩) h.1 _⟩
 refine (copyCheck_used b w h.cell0).mono ?_
 rintro e w' ⟨rfl, rfl⟩
 exact ⟨rfl, h, Below.refl B _⟩
theorem isB_sees {T e : TypeId} {B b : Nat} {bs : List Value} {w W : World} (h : Lib.IsBuilder T e B b bs w) (hS : Sees w W) : Lib.IsBuilder T e B b bs W := by
 have key : ∀ p, Lib.BuilderAt T e B b p bs w → Lib.BuilderAt T e B b p bs W := by
  intro p h
  have hlt := h.lt
  obtain ⟨hB, v, hb, ⟨hl, hr⟩, hne⟩ := h
  refine ⟨hB, v, (hS.2.2.block b hlt).trans hb, ⟨hl, ?_⟩, hne⟩
  rcases hr with hr | ⟨g, cap, cur, hv, hg, hc, hrest⟩
  ·
   exact .inl hr
  refine .inr ⟨g, cap, cur, hv, hg, ?_, hrest⟩
  have hg2 : g < w.heap.size := by
   rcases Nat.lt_or_ge g w.heap.size with h' | h'
   ·
    exact h'
   simp [Array.getElem?_eq_none h'] at hc
  exact (hS.2.2.block g hg2).trans hc
 rcases h with h | h
 ·
  exact .inl (key _ h)
 exact .inr (key _ h)
set_option maxHeartbeats 2000000 in
set_option maxRecDepth 100000 in
theorem writeByte_c (B b : Nat) (bs : List Value) (c : Int) (w : World) (h : Lib.IsBuilder 107 5 B b bs w) (hlen : bs.length + 1 ≤ 140737488355328) (hBw : B ≤ w.heap.size) :
  Calls Tryd.prog 99 #[.pointer (some ⟨b, 0, none⟩), .int .u8 c] w fun e w' => e = .returned .nilIface ∧ (Lib.BuilderAt 107 5 B b (.pointer (some ⟨b, 0, none⟩)) (bs ++ [.int .u8 c]) w' ∧ Below B w w') := by
 obtain ⟨i0, hi, hz0, hz1, hz2⟩ := info_parts (show (Tryd.prog.info? 5).map (fun i => (i.zero, i.size, i.bytes)) = some (some (.int .u8 0), 1, 1) by kernel_rfl)
 have mixed : Tryd.prog.follows .mixedOrders = true := by kernel_rfl
 have t107 := U9107; have a107 := Tryd.isAgg107; have z107 := Tryd.sizeOf107; have v107 := Tryd.zeroValue107; have u107 := run_underlying U9107
 have t105 := U9105; have a105 := Tryd.isAgg105; have z105 := Tryd.sizeOf105; have v105 := Tryd.zeroValue105; have u105 := run_underlying U9105
 have t5 := U95; have a5 := Tryd.isAgg5; have z5 := Tryd.sizeOf5; have v5 := Tryd.zeroValue5; have u5 := run_underlying U95
 have t29 := U929; have a29 := Tryd.isAgg29; have z29 := Tryd.sizeOf29; have v29 := Tryd.zeroValue29; have u29 := run_underlying U929
 have t9 := U99; have a9 := Tryd.isAgg9; have z9 := Tryd.sizeOf9; have v9 := Tryd.zeroValue9; have u9 := run_underlying U99
 have t4 := U94; have a4 := Tryd.isAgg4; have z4 := Tryd.sizeOf4; have v4 := Tryd.zeroValue4; have u4 := run_underlying U94
 have t185 := U9185; have a185 := Tryd.isAgg185; have z185 := Tryd.sizeOf185; have v185 := Tryd.zeroValue185; have u185 := run_underlying U9185
 have ecc : ∀ args w, (callFunc 103 args).run Tryd.prog w = .ok (.enter 103 args) w := enters_of G9103 (by kernel_rfl) rfl
 go_enter Tryd.func99, Tryd.ntmps99
 go_wp2_with (go_at_fn 103; refine (copyCheck_c B b bs _ h).mono ?_)
 rintro e w1 ⟨rfl, h1, hb1⟩
 obtain ⟨hB, v, hbk, hown, hne⟩ := h1
 have c0 : w1.cell? ⟨b, 0, none⟩ = some (.pointer (some ⟨b, 0, none⟩)) := by rw [Lib.cell_of_heap hbk]; rfl
 have c1 : w1.cell? ⟨b, 1, none⟩ = some v := by rw [Lib.cell_of_heap hbk]; rfl
 go_wp2_with (at_builtin; refine wpList_append_own _ rfl _ _ 29 rfl B 5 i0 (.int .u8 0) 1 1 U929 hi hz0 hz1 hz2 rfl (by decide) _ _ _ rfl (hown.alloc _) ⟨w1.heap.size, 0, none⟩ 1 1 [.int .u8 c] rfl rfl ?c1 ?c2 ?c3 ?c4 ?c5 ?_)
 case c1 =>
  intro j u hj
  match j, hj with
  | 0, hj => simp at hj; subst hj; simp [Addr.add]
 case c2 => intro u hu; simp at hu; subst hu; rfl
 case c3 => unfold maxLen; omega
 case c4 => omega
 case c5 => have := hb1.size; simp; omega
 intro v' w2 hown' hgrow _
 have hlt : b < w1.heap.size := by
  rcases Nat.lt_or_ge b w1.heap.size with h' | h'
  ·
   exact h'
  simp [Array.getElem?_eq_none h'] at hbk
 have hb2 : w2.heap[b]? = some (.cells #[.pointer (some ⟨b, 0, none⟩), v] 107 (0, 0)) := by
  rw [hgrow.block b (by simp; omega) (fun e => hne e.symm), Lib.alloc_old w1 _ b hlt]
  exact hbk
 have d0 : w2.cell? ⟨b, 0, none⟩ = some (.pointer (some ⟨b, 0, none⟩)) := by rw [Lib.cell_of_heap hb2]; rfl
 have d1 : w2.cell? ⟨b, 1, none⟩ = some v := by rw [Lib.cell_of_heap hb2]; rfl
 have f1 : w2.frozen? ⟨b, 1, none⟩ = false := Lib.frozen_of_heap hb2 1
 obtain ⟨g, cap, rfl⟩ : ∃ g cap, v' = .slice (some ⟨g, 0, none⟩) (bs.length + 1) cap := by
  rcases hown'.2 with ⟨_, h0⟩ | ⟨g, cap, cur, hv, _⟩
  ·
   omega
  exact ⟨g, cap, hv⟩
 go_wp2
 go_ret
 refine ⟨rfl, ?_, ?_⟩
 ·
  exact Lib.BuilderAt.put (T := 107) (e := 5) hB hb2 (bs' := bs ++ [.int .u8 c]) (by simpa using hown') (by decide)
 exact ((hb1.alloc (by have := hb1.size; omega) _).grown hgrow (by have := hb1.size; simp; omega) (fun k hk => (hown.lt k hk).1)).setCell (p := ⟨b, 1, none⟩) hB _
end Go.Proofs.Yc

namespace Go.Proofs.Yc
open Go Go.RowKit Go.Proofs.Num
open Tryd renaming underlying29 → U929, underlying40 → U940, underlying5 → U95, underlying9 → U99
open Go.Proofs.Num  renaming putT → Z0
open Nat renaming zero_add → Z2, le_trans → Z3
open List renaming set → Z6, take → Z7, drop → Z8
open Go renaming undef → Z9
open Go.Proofs.Num renaming wp_region_seq → Z13, wpL_nil → Z14, no_panic → Z15, wpV_nil → Z19, wpL_var → Z36
attribute [local irreducible] wpV wpN wpList
open Go.Proofs.Ya
set_option maxHeartbeats 4000000 in
theorem end_cq {g n : Nat} {h : S8q} {b : List UInt8} {w : World} (hh : h.Ok) (hb : b.length < 128) (hn : n < 18446744073709551616) (hg : g ≠ 2) (L2 : 2 < w.heap.size) (R2_0 : w.rangeAt 2 0 kcellsq) (hM : Mem [g] w w [⟨g, 10, [(0, [.int .u64 h.a, .int .u64 h.b, .int .u64 h.c, .int .u64 h.d, .int .u64 h.e, .int .u64 h.f, .int .u64 h.g, .int .u64 h.h]), (8, [.string (bs b)]), (9, [.int .u64 n])]⟩]) :
  Calls Tryd.prog 124 #[.pointer (some ⟨g, 0, none⟩)] w fun e w' => ∃ v, e = .returned v ∧ v = .string (bs (endLq h b n)) ∧ Mem [g] w w' [⟨g, 10, []⟩] := by
 go_enter Tryd.func124, Tryd.ntmps124
 have M := hM
 refine qS fun _ k1 => ?_
 refine lg ?_; refine lZ k1 ?_
 refine qS fun _ k3 => ?_
 refine lM ?_; refine lN ?_; refine lF ?_; refine lF ?_; refine lc ?_
 refine cM 1 fun Lk hLk => ?_
 refine vB (v := .int .u64 ((n * 8) % 18446744073709551616 : Nat)) (hr := nr_mul64 _ n 8) ?_
 refine hLk _ fun w5 M => ?_
 refine lg ?_; refine lZ k3 ?_
 refine qS fun _ k6 => ?_
 refine lM ?_; refine lN ?_; refine lF ?_; refine lF ?_; refine lc ?_
 refine cM 3 fun Lk hLk => ?_
 refine wpV_lenS (by rfl) rfl rfl rfl U99 ?_
 simp only [Z0, Z6]
 refine vB (v := .int .i64 (239 - b.length : Nat)) (hr := run_sub (by simp only [IntKind.wrap_i64]; omega)) ?_
 refine vB (v := .int .i64 ((239 - b.length) % 128 : Nat)) (hr := run_rem (by decide) (tmod_nat (239 - b.length) 128)) ?_
 refine hLk _ fun w8 M => ?_
 refine lg ?_; refine lZ k6 ?_
 refine qS fun _ k9 => ?_
 refine lM ?_
 refine cM 2 fun Lk hLk => ?_
 refine vB (v := .int .i64 (1 + (239 - b.length) % 128 : Nat)) (hr := run_add (by simp only [IntKind.wrap_i64]; omega)) ?_
 refine vB (v := .int .i64 (1 + (239 - b.length) % 128 + 16 : Nat)) (hr := run_add (by simp only [IntKind.wrap_i64]; omega)) ?_
 refine hLk _ fun w11 M => ?_
 refine wpL_make (n := 1 + (239 - b.length) % 128 + 16) (z := .int .u8 0) (bytes := 1) (by rfl) (by rfl) (by rfl) (by rfl) U929 (by kernel_rfl) rfl (by omega) (by omega) (fun g12 w13 Sw13 Hg12 Bg12 => ?_)
 replace M := ((M.sees Sw13).add (N := 1 + (239 - b.length) % 128 + 16) (cs := List.replicate (1 + (239 - b.length) % 128 + 16) (.int .u8 0)) (M.ge Hg12) (M.fresh Hg12) Bg12 (by simp [flen]))
 clear Bg12
 simp only [Z0, Z6]
 refine lg ?_; refine lZ k9 ?_
 refine qS fun _ k14 => ?_
 refine lM ?_
 refine cM 1 fun Lk hLk => ?_
 refine wpV_idxs (n := 0) (by rfl) rfl rfl rfl U929 info5 (by omega) ?_
 simp only [Z2]
 simp only [Z0, Z6]
 refine hLk _ fun w16 M => ?_
 refine lS1 (g := g12) (off := 0) (n := 1 + (239 - b.length) % 128 + 16) (v := .int .u8 128) (M.t 0 rfl) (by omega) info5 rfl (fun w17 P R T => ?_)
 replace M := M.put1 (j := 0) 0 rfl P R T (Z2 _).symm
 simp only [Z6] at M
 rw [tail_firstq _ (n * 8 % 18446744073709551616)] at M
 refine lZ k14 ?_
 refine sk fun _ k18 => ?_
 refine qS fun _ k19 => ?_
 refine lM ?_; refine lZ k19 ?_; refine wp_block ?_
 refine wp_loop_ghost (fun n9 a9 W9 => ∃ (q : Nat) (u21 : Nat → Value), n9 = 8 - q ∧ a9 = { tmps := #[.pointer (some ⟨g, 0, none⟩), Z9, .string (bs ([])), .int .u64 ((n * 8) % 18446744073709551616 : Nat), .int .i64 ((239 - b.length) % 128 : Nat), .slice (some ⟨g12, 0, none⟩) (1 + (239 - b.length) % 128 + 16) (1 + (239 - b.length) % 128 + 16), u21 6, Z9, Z9, Z9, Z9, .pointer (some ⟨g, 0, none⟩), .pointer (some ⟨g, 0, none⟩), .pointer (some ⟨g, 0, none⟩), .pointer (some ⟨g, 9, none⟩), .int .u64 n, .int .u64 ((n * 8) % 18446744073709551616 : Nat), .pointer (some ⟨g, 0, none⟩), .pointer (some ⟨g, 0, none⟩), .pointer (some ⟨g, 0, none⟩), .pointer (some ⟨g, 8, none⟩), .string (bs b), .int .i64 b.length, .int .i64 (239 - b.length : Nat), .int .i64 ((239 - b.length) % 128 : Nat), .int .i64 ((239 - b.length) % 128 : Nat), .int .i64 (1 + (239 - b.length) % 128 : Nat), .int .i64 (1 + (239 - b.length) % 128 + 16 : Nat), .slice (some ⟨g12, 0, none⟩) (1 + (239 - b.length) % 128 + 16) (1 + (239 - b.length) % 128 + 16), .slice (some ⟨g12, 0, none⟩) (1 + (239 - b.length) % 128 + 16) (1 + (239 - b.length) % 128 + 16), .pointer (some ⟨g12, 0, none⟩), .int .i64 q, u21 32, u21 33, u21 34, u21 35, u21 36, u21 37, u21 38, u21 39, u21 40, u21 41, u21 42, u21 43, u21 44, u21 45, u21 46, Z9, Z9, Z9, Z9, Z9, Z9, Z9, Z9, Z9, Z9, Z9, Z9, Z9, Z9, Z9, Z9, Z9, Z9, Z9, Z9, Z9, Z9, Z9, Z9, Z9], defers := [] } ∧ Mem [g] w W9 [⟨g12, 1 + (239 - b.length) % 128 + 16, [(0, bl (1 + (239 - b.length) % 128 + 16) (tailFq ((239 - b.length) % 128) (n * 8 % 18446744073709551616) q))]⟩, ⟨g, 10, [(0, [.int .u64 h.a, .int .u64 h.b, .int .u64 h.c, .int .u64 h.d, .int .u64 h.e, .int .u64 h.f, .int .u64 h.g, .int .u64 h.h]), (8, [.string (bs b)]), (9, [.int .u64 n])]⟩] ∧ (q ≤ 8)) (8 - (0)) ?_ (fun n9 a9 W9 hI => ?_)
 ·
  exact ⟨0, (fun q9 => (#[Z9, Z9, Z9, Z9, Z9, Z9, Z9, Z9, Z9, Z9, Z9, Z9, Z9, Z9, Z9, Z9, Z9, Z9, Z9, Z9, Z9, Z9, Z9, Z9, Z9, Z9, Z9, Z9, Z9, Z9, Z9, Z9, Z9, Z9, Z9, Z9, Z9, Z9, Z9, Z9, Z9, Z9, Z9, Z9, Z9, Z9, Z9] : Array Value).getD q9 Z9), rfl, rfl, M, (by omega)⟩
 clear M
 obtain ⟨q, u21, rfl, rfl, M, hq4⟩ := hI
 obtain ⟨w22, rfl⟩ : ∃ W8, W8 = W9 := ⟨_, rfl⟩
 refine qS fun _ k23 => ?_
 refine cM 1 fun Lk hLk => ?_
 refine vB (v := .bool (decide (q < 8))) (hr := run_lssN q 8 _ _) ?_
 refine hLk _ fun w25 M => ?_
 refine lZ k23 ?_
 refine sk fun _ k26 => ?_
 cases hc27 : (decide (q < 8))
 ·
  have eq : q = 8 := by have := of_decide_eq_false hc27; omega
  subst eq
  refine cF ?_; refine eZ k18 ?_
  refine sk fun _ k28 => ?_
  rw [tail_endq] at M
  refine Z13 ?_; refine lM ?_; refine lM ?_
  refine cM 1 fun Lk hLk => ?_
  refine wpV_b2s (l := (tailLq b.length n)) (by rfl) rfl rfl (tailL_lenq ..).symm U929 U95 U99 (M.r 0 0 rfl rfl) (M.lt 0 rfl) ?_
  simp only [Z0, Z6]
  refine hLk _ fun w30 M => ?_
  refine wpL_callM (f := 123) (args := #[.pointer (some ⟨g, 0, none⟩), .string (bs (tailLq b.length n))]) (R := fun v9 W9 => v9 = .tuple #[] ∧ Mem [g] w30 W9 [⟨g, 10, [(0, [.int .u64 (((takeHq h (b ++ (tailLq b.length n))).a : Nat) : Int), .int .u64 (((takeHq h (b ++ (tailLq b.length n))).b : Nat) : Int), .int .u64 (((takeHq h (b ++ (tailLq b.length n))).c : Nat) : Int), .int .u64 (((takeHq h (b ++ (tailLq b.length n))).d : Nat) : Int), .int .u64 (((takeHq h (b ++ (tailLq b.length n))).e : Nat) : Int), .int .u64 (((takeHq h (b ++ (tailLq b.length n))).f : Nat) : Int), .int .u64 (((takeHq h (b ++ (tailLq b.length n))).g : Nat) : Int), .int .u64 (((takeHq h (b ++ (tailLq b.length n))).h : Nat) : Int)]), (8, [.string (bs (takeRq (b ++ (tailLq b.length n))))]), (9, [.int .u64 ((((n + (tailLq b.length n).length) % 18446744073709551616) : Nat) : Int)])]⟩]) (by rfl) (by rfl) rfl Tryd.func123 (by kernel_rfl) (by kernel_rfl) (take_cq (h := h) (b := b) (l := (tailLq b.length n)) (n := n) hh hb (by rw [tailL_lenq]; omega) hg (M.oldL L2) (M.oldG R2_0 L2 (by simpa using Ne.symm hg)) (M.one 1 rfl)) (fun v9 w31 h9 => ?_)
  obtain ⟨rfl, M9⟩ := h9
  replace M := M.callM1 1 rfl M9
  simp only [Z6] at M
  simp only [Z0, Z6]
  refine lZ k28 ?_
  refine sk fun _ k32 => ?_
  have hok : (takeHq h (b ++ (tailLq b.length n))).Ok := takeH_okq _ _ _ (Nat.le_refl _) hh
  generalize hS : takeHq h (b ++ (tailLq b.length n)) = S at M hok
  have hgB := M.lt 1 rfl
  have hsz := M.size
  refine Z13 ?_
  refine Z36 (t := 107) (cs := [.pointer none, .slice none 0 0]) (by rfl) (fun W => ?_) (fun g34 w33 SB HB BB => ?_)
  ·
   go_simp
  have IB : Lib.IsBuilder 107 5 w31.heap.size g34 [] w33 := .inl ⟨HB, _, BB, World.ownsRow_nil _ _ _ _, by simp [Value.ownBlock]⟩
  have HB9 := SB.2.2.size
  replace M := M.sees SB
  simp only [Z0, Z6]
  refine lZ k32 ?_
  refine sk fun _ k35 => ?_
  refine qS fun _ k36 => ?_
  refine lM ?_; refine lN ?_; refine lF ?_; refine lF ?_; refine lL ?_; refine lM ?_
  refine Z14 (Z15 ?_)
  replace M := (M.pick [1] (by decide) rfl : Mem [g] w w33 [⟨g, 10, [(0, [.int .u64 S.a, .int .u64 S.b, .int .u64 S.c, .int .u64 S.d, .int .u64 S.e, .int .u64 S.f, .int .u64 S.g, .int .u64 S.h]), (8, [.string (bs (takeRq (b ++ (tailLq b.length n))))]), (9, [.int .u64 ((((n + (tailLq b.length n).length) % 18446744073709551616) : Nat) : Int)])]⟩])
  replace M := M.read (segs' := []) 0 rfl (by simp)
  simp only [Z6] at M
  have hl9 : ∀ b9 ∈ ([⟨g, 10, []⟩] : List Bk), b9.g < w31.heap.size := fun b9 hb9 => by rw [List.mem_singleton.1 hb9]; exact hgB
  clear hgB
  refine k36 _ _ ?_; refine wp_block ?_
  refine wp_loop_ghost (fun n9 a9 W9 => ∃ (i : Nat) (u39 : Nat → Value), n9 = 8 - i ∧ a9 = { tmps := #[.pointer (some ⟨g, 0, none⟩), Z9, .string (bs ([])), .int .u64 ((n * 8) % 18446744073709551616 : Nat), .int .i64 ((239 - b.length) % 128 : Nat), .slice (some ⟨g12, 0, none⟩) (1 + (239 - b.length) % 128 + 16) (1 + (239 - b.length) % 128 + 16), u21 6, .pointer (some ⟨g34, 0, none⟩), Z9, u39 9, u39 10, .pointer (some ⟨g, 0, none⟩), .pointer (some ⟨g, 0, none⟩), .pointer (some ⟨g, 0, none⟩), .pointer (some ⟨g, 9, none⟩), .int .u64 n, .int .u64 ((n * 8) % 18446744073709551616 : Nat), .pointer (some ⟨g, 0, none⟩), .pointer (some ⟨g, 0, none⟩), .pointer (some ⟨g, 0, none⟩), .pointer (some ⟨g, 8, none⟩), .string (bs b), .int .i64 b.length, .int .i64 (239 - b.length : Nat), .int .i64 ((239 - b.length) % 128 : Nat), .int .i64 ((239 - b.length) % 128 : Nat), .int .i64 (1 + (239 - b.length) % 128 : Nat), .int .i64 (1 + (239 - b.length) % 128 + 16 : Nat), .slice (some ⟨g12, 0, none⟩) (1 + (239 - b.length) % 128 + 16) (1 + (239 - b.length) % 128 + 16), .slice (some ⟨g12, 0, none⟩) (1 + (239 - b.length) % 128 + 16) (1 + (239 - b.length) % 128 + 16), .pointer (some ⟨g12, 0, none⟩), .int .i64 (8 : Nat), .bool false, u21 33, u21 34, u21 35, u21 36, u21 37, u21 38, u21 39, u21 40, u21 41, u21 42, u21 43, u21 44, u21 45, u21 46, .pointer (some ⟨g, 0, none⟩), .slice (some ⟨g12, 0, none⟩) (1 + (239 - b.length) % 128 + 16) (1 + (239 - b.length) % 128 + 16), .string (bs (tailLq b.length n)), .tuple #[], .pointer (some ⟨g, 0, none⟩), .pointer (some ⟨g, 0, none⟩), .pointer (some ⟨g, 0, none⟩), .pointer (some ⟨g, 0, none⟩), .agg ([.int .u64 S.a, .int .u64 S.b, .int .u64 S.c, .int .u64 S.d, .int .u64 S.e, .int .u64 S.f, .int .u64 S.g, .int .u64 S.h]).toArray, .int .i64 i, u39 57, u39 58, u39 59, u39 60, u39 61, u39 62, u39 63, u39 64, u39 65, u39 66, u39 67, u39 68, u39 69, u39 70, Z9], defers := [] } ∧ Mem [g] w W9 [⟨g, 10, []⟩] ∧ (i ≤ 8) ∧ (Lib.IsBuilder 107 5 w31.heap.size g34 (Lib.byteCells ((outSq S).take (8 * i))) W9) ∧ (w31.heap.size ≤ W9.heap.size)) (8 - (0)) ?_ (fun n9 a9 W9 hI => ?_)
  ·
   exact ⟨0, (fun q9 => (#[Z9, Z9, Z9, Z9, Z9, Z9, Z9, Z9, Z9, Z9, Z9, Z9, Z9, Z9, Z9, Z9, Z9, Z9, Z9, Z9, Z9, Z9, Z9, Z9, Z9, Z9, Z9, Z9, Z9, Z9, Z9, Z9, Z9, Z9, Z9, Z9, Z9, Z9, Z9, Z9, Z9, Z9, Z9, Z9, Z9, Z9, Z9, Z9, Z9, Z9, Z9, Z9, Z9, Z9, Z9, Z9, Z9, Z9, Z9, Z9, Z9, Z9, Z9, Z9, Z9, Z9, Z9, Z9, Z9, Z9, Z9] : Array Value).getD q9 Z9), rfl, rfl, M, (by omega), IB, HB9⟩
  clear M
  obtain ⟨i, u39, rfl, rfl, M, hi4, IB, HB9⟩ := hI
  obtain ⟨w40, rfl⟩ : ∃ W8, W8 = W9 := ⟨_, rfl⟩
  refine qS fun _ k41 => ?_
  refine lCh 1 (fun Lk hLk => ?_)
  refine vB (v := .bool (decide (i < 8))) (hr := run_lssN i 8 _ _) ?_
  refine Z19 (hLk _ (fun w43 Sw43 => ?_))
  simp only [Z7, Z8]
  replace M := M.sees Sw43
  replace IB := isB_sees IB Sw43; replace HB9 := Z3 HB9 Sw43.2.2.size
  refine lZ k41 ?_
  refine sk fun _ k44 => ?_
  cases hc45 : (decide (i < 8))
  ·
   have ei : i = 8 := by have := of_decide_eq_false hc45; omega
   subst ei
   refine cF ?_; refine eZ k35 ?_
   refine qS fun _ k46 => ?_
   refine wpL_callM (f := 71) (args := #[.pointer (some ⟨g34, 0, none⟩)]) (R := fun v9 W9 => v9 = .string (bs (outSq S)) ∧ Below w31.heap.size w43 W9) (by rfl) (by rfl) rfl Tryd.func71 (by kernel_rfl) (by kernel_rfl) ((Tryd.Builder_String_any w31.heap.size g34 (outSq S) w43 (by rw [List.take_of_length_le (by rw [outS_lenq]; decide)] at IB; exact IB) HB9).mono fun e W9 h => ⟨_, h.1, rfl, h.2⟩) (fun v9 w48 h9 => ?_)
   obtain ⟨rfl, hBw⟩ := h9
   replace M := M.belowB hBw hsz hl9
   simp only [Z0, Z6]
   refine lg ?_; refine lZ k46 ?_; refine rt1 ?_
   exact ⟨_, rfl, by rw [← hS]; rfl, M⟩
  have hi : i < 8 := of_decide_eq_true hc45
  refine cT ?_; refine sZ k44 ?_
  refine sk fun _ k49 => ?_
  refine wp_block ?_
  refine qS fun _ k50 => ?_
  refine lCh 1 (fun Lk hLk => ?_)
  refine wpV_index (n := i) (v := .int .u64 (S.get i : Nat)) (by rfl) rfl rfl rfl Tryd.underlying129 info40 U940 rfl (by omega) (c8_getq S hi) ?_
  simp only [Z0, Z6]
  refine Z19 (hLk _ (fun w52 Sw52 => ?_))
  simp only [Z7, Z8]
  replace M := M.sees Sw52
  replace IB := isB_sees IB Sw52; replace HB9 := Z3 HB9 Sw52.2.2.size
  refine lg ?_; refine lZ k50 ?_
  refine qS fun _ k53 => ?_
  refine lM ?_; refine lZ k53 ?_; refine wp_block ?_
  refine wp_loop_ghost (fun n9 a9 W9 => ∃ (j : Nat) (u55 : Nat → Value), n9 = 8 - j ∧ a9 = { tmps := #[.pointer (some ⟨g, 0, none⟩), Z9, .string (bs ([])), .int .u64 ((n * 8) % 18446744073709551616 : Nat), .int .i64 ((239 - b.length) % 128 : Nat), .slice (some ⟨g12, 0, none⟩) (1 + (239 - b.length) % 128 + 16) (1 + (239 - b.length) % 128 + 16), u21 6, .pointer (some ⟨g34, 0, none⟩), Z9, .int .u64 (S.get i : Nat), u55 10, .pointer (some ⟨g, 0, none⟩), .pointer (some ⟨g, 0, none⟩), .pointer (some ⟨g, 0, none⟩), .pointer (some ⟨g, 9, none⟩), .int .u64 n, .int .u64 ((n * 8) % 18446744073709551616 : Nat), .pointer (some ⟨g, 0, none⟩), .pointer (some ⟨g, 0, none⟩), .pointer (some ⟨g, 0, none⟩), .pointer (some ⟨g, 8, none⟩), .string (bs b), .int .i64 b.length, .int .i64 (239 - b.length : Nat), .int .i64 ((239 - b.length) % 128 : Nat), .int .i64 ((239 - b.length) % 128 : Nat), .int .i64 (1 + (239 - b.length) % 128 : Nat), .int .i64 (1 + (239 - b.length) % 128 + 16 : Nat), .slice (some ⟨g12, 0, none⟩) (1 + (239 - b.length) % 128 + 16) (1 + (239 - b.length) % 128 + 16), .slice (some ⟨g12, 0, none⟩) (1 + (239 - b.length) % 128 + 16) (1 + (239 - b.length) % 128 + 16), .pointer (some ⟨g12, 0, none⟩), .int .i64 (8 : Nat), .bool false, u21 33, u21 34, u21 35, u21 36, u21 37, u21 38, u21 39, u21 40, u21 41, u21 42, u21 43, u21 44, u21 45, u21 46, .pointer (some ⟨g, 0, none⟩), .slice (some ⟨g12, 0, none⟩) (1 + (239 - b.length) % 128 + 16) (1 + (239 - b.length) % 128 + 16), .string (bs (tailLq b.length n)), .tuple #[], .pointer (some ⟨g, 0, none⟩), .pointer (some ⟨g, 0, none⟩), .pointer (some ⟨g, 0, none⟩), .pointer (some ⟨g, 0, none⟩), .agg ([.int .u64 S.a, .int .u64 S.b, .int .u64 S.c, .int .u64 S.d, .int .u64 S.e, .int .u64 S.f, .int .u64 S.g, .int .u64 S.h]).toArray, .int .i64 i, .bool true, .int .u64 (S.get i : Nat), .int .i64 j, u55 60, u55 61, u55 62, u55 63, u55 64, u55 65, u55 66, u55 67, u55 68, u55 69, u39 70, Z9], defers := [] } ∧ Mem [g] w W9 [⟨g, 10, []⟩] ∧ (j ≤ 8) ∧ (Lib.IsBuilder 107 5 w31.heap.size g34 (Lib.byteCells ((outSq S).take (8 * i + j))) W9) ∧ (w31.heap.size ≤ W9.heap.size)) (8 - (0)) ?_ (fun n9 a9 W9 hI => ?_)
  ·
   exact ⟨0, (fun q9 => (#[Z9, Z9, Z9, Z9, Z9, Z9, Z9, Z9, Z9, Z9, u39 10, Z9, Z9, Z9, Z9, Z9, Z9, Z9, Z9, Z9, Z9, Z9, Z9, Z9, Z9, Z9, Z9, Z9, Z9, Z9, Z9, Z9, Z9, Z9, Z9, Z9, Z9, Z9, Z9, Z9, Z9, Z9, Z9, Z9, Z9, Z9, Z9, Z9, Z9, Z9, Z9, Z9, Z9, Z9, Z9, Z9, Z9, Z9, Z9, Z9, u39 60, u39 61, u39 62, u39 63, u39 64, u39 65, u39 66, u39 67, u39 68, u39 69] : Array Value).getD q9 Z9), rfl, rfl, M, (by omega), IB, HB9⟩
  clear M
  obtain ⟨j, u55, rfl, rfl, M, hj4, IB, HB9⟩ := hI
  obtain ⟨w56, rfl⟩ : ∃ W8, W8 = W9 := ⟨_, rfl⟩
  refine qS fun _ k57 => ?_
  refine lCh 1 (fun Lk hLk => ?_)
  refine vB (v := .bool (decide (j < 8))) (hr := run_lssN j 8 _ _) ?_
  refine Z19 (hLk _ (fun w59 Sw59 => ?_))
  simp only [Z7, Z8]
  replace M := M.sees Sw59
  replace IB := isB_sees IB Sw59; replace HB9 := Z3 HB9 Sw59.2.2.size
  refine lZ k57 ?_
  refine sk fun _ k60 => ?_
  cases hc61 : (decide (j < 8))
  ·
   have ej : j = 8 := by have := of_decide_eq_false hc61; omega
   subst ej
   refine cF ?_; refine eZ k49 ?_; refine Z13 ?_
   refine lCh 1 (fun Lk hLk => ?_)
   refine vB (v := .int .i64 (i + 1 : Nat)) (hr := run_add (by simp only [IntKind.wrap_i64]; omega)) ?_
   refine Z19 (hLk _ (fun w63 Sw63 => ?_))
   simp only [Z7, Z8]
   replace M := M.sees Sw63
   replace IB := isB_sees IB Sw63; replace HB9 := Z3 HB9 Sw63.2.2.size
   refine lM ?_
   refine Z14 (Z15 ?_)
   refine Exists.intro _ ⟨?_, (i + 1), (fun q9 => (#[Z9, Z9, Z9, Z9, Z9, Z9, Z9, Z9, Z9, .int .u64 (S.get i : Nat), u55 10, Z9, Z9, Z9, Z9, Z9, Z9, Z9, Z9, Z9, Z9, Z9, Z9, Z9, Z9, Z9, Z9, Z9, Z9, Z9, Z9, Z9, Z9, Z9, Z9, Z9, Z9, Z9, Z9, Z9, Z9, Z9, Z9, Z9, Z9, Z9, Z9, Z9, Z9, Z9, Z9, Z9, Z9, Z9, Z9, Z9, Z9, .bool true, .int .u64 (S.get i : Nat), .int .i64 (8 : Nat), .bool false, u55 61, u55 62, u55 63, u55 64, u55 65, u55 66, u55 67, u55 68, u55 69, .int .i64 (i + 1 : Nat)] : Array Value).getD q9 Z9), rfl, rfl, M, (by omega), IB, HB9⟩
   omega
  have hj : j < 8 := of_decide_eq_true hc61
  refine cT ?_; refine sZ k60 ?_
  refine sk fun _ k64 => ?_
  refine wp_block ?_
  refine qS fun _ k65 => ?_
  refine lM ?_; refine lg ?_; refine lZ k65 ?_; refine Z13 ?_; refine lM ?_; refine lM ?_
  refine lCh 4 (fun Lk hLk => ?_)
  refine vB (v := .int .i64 (7 - j : Nat)) (hr := run_sub (by simp only [IntKind.wrap_i64]; omega)) ?_
  refine vB (v := .int .i64 (8 * (7 - j) : Nat)) (hr := run_mul (by simp only [IntKind.wrap_i64]; omega)) ?_
  refine vB (v := .int .u64 ((S.get i) / 2 ^ (8 * (7 - j)) : Nat)) (hr := nr_shr64 (x := S.get i) (n := 8 * (7 - j)) (by omega)) ?_
  refine wpV_conv (d := .bool) (e := ((((S.get i) / 2 ^ (8 * (7 - j))) % 256 : Nat) : Int)) (by rfl) rfl rfl (run_conv_int U940 U95 (wrap_u8N _)) ?_
  simp only [Z0, Z6]
  refine Z19 (hLk _ (fun w68 Sw68 => ?_))
  simp only [Z7, Z8]
  replace M := M.sees Sw68
  replace IB := isB_sees IB Sw68; replace HB9 := Z3 HB9 Sw68.2.2.size
  refine wpL_callM (f := 99) (args := #[.pointer (some ⟨g34, 0, none⟩), .int .u8 ((((S.get i) / 2 ^ (8 * (7 - j))) % 256 : Nat) : Int)]) (R := fun v9 W9 => v9 = .nilIface ∧ Lib.IsBuilder 107 5 w31.heap.size g34 ((Lib.byteCells ((outSq S).take (8 * i + j))) ++ [.int .u8 ((((S.get i) / 2 ^ (8 * (7 - j))) % 256 : Nat) : Int)]) W9 ∧ Below w31.heap.size w68 W9) (by rfl) (by rfl) rfl Tryd.func99 (by kernel_rfl) (by kernel_rfl) ((writeByte_c w31.heap.size g34 _ _ w68 IB (by rw [Lib.byteCells_length, List.length_take, outS_lenq]; omega) HB9).mono fun e W9 h => ⟨_, h.1, rfl, .inr h.2.1, h.2.2⟩) (fun v9 w69 h9 => ?_)
  obtain ⟨rfl, IB2, hBw⟩ := h9
  replace IB := IB2; clear IB2
  replace M := M.belowB hBw hsz hl9
  replace HB9 := Z3 HB9 hBw.size
  simp only [Z0, Z6]
  refine lZ k64 ?_; refine Z13 ?_
  refine lCh 1 (fun Lk hLk => ?_)
  refine vB (v := .int .i64 (j + 1 : Nat)) (hr := run_add (by simp only [IntKind.wrap_i64]; omega)) ?_
  refine Z19 (hLk _ (fun w71 Sw71 => ?_))
  simp only [Z7, Z8]
  replace M := M.sees Sw71
  replace IB := isB_sees IB Sw71; replace HB9 := Z3 HB9 Sw71.2.2.size
  refine lM ?_
  refine Z14 (Z15 ?_)
  refine Exists.intro _ ⟨?_, (j + 1), (fun q9 => (#[Z9, Z9, Z9, Z9, Z9, Z9, Z9, Z9, Z9, Z9, .int .i64 j, Z9, Z9, Z9, Z9, Z9, Z9, Z9, Z9, Z9, Z9, Z9, Z9, Z9, Z9, Z9, Z9, Z9, Z9, Z9, Z9, Z9, Z9, Z9, Z9, Z9, Z9, Z9, Z9, Z9, Z9, Z9, Z9, Z9, Z9, Z9, Z9, Z9, Z9, Z9, Z9, Z9, Z9, Z9, Z9, Z9, Z9, Z9, Z9, Z9, .bool true, .int .i64 j, .int .u64 (S.get i : Nat), .int .i64 j, .int .i64 (7 - j : Nat), .int .i64 (8 * (7 - j) : Nat), .int .u64 ((S.get i) / 2 ^ (8 * (7 - j)) : Nat), .int .u8 ((((S.get i) / 2 ^ (8 * (7 - j))) % 256 : Nat) : Int), .nilIface, .int .i64 (j + 1 : Nat)] : Array Value).getD q9 Z9), rfl, rfl, M, (by omega), (by rw [show Lib.byteCells = bcells from rfl, out_stepq S hi hj] at IB; exact IB), HB9⟩
  omega
 have hq : q < 8 := of_decide_eq_true hc27
 refine cT ?_; refine sZ k26 ?_
 refine sk fun _ k72 => ?_
 refine wp_block ?_
 refine qS fun _ k73 => ?_
 refine lM ?_; refine lg ?_; refine lZ k73 ?_; refine Z13 ?_; refine lM ?_; refine lM ?_
 refine cM 10 fun Lk hLk => ?_
 refine wpV_lenA (n := 1 + (239 - b.length) % 128 + 16) (by rfl) rfl rfl rfl U929 ?_
 simp only [Z0, Z6]
 refine vB (v := .int .i64 ((1 + (239 - b.length) % 128 + 16) - 1 : Nat)) (hr := run_sub (by simp only [IntKind.wrap_i64]; omega)) ?_
 refine vM ?_
 refine vB (v := .int .i64 ((((1 + (239 - b.length) % 128 + 16) - 1) - q : Nat) : Int)) (hr := run_sub (by simp only [IntKind.wrap_i64]; omega)) ?_
 refine vM ?_; refine vM ?_
 refine vB (v := .int .i64 (8 * q : Nat)) (hr := run_mul (by simp only [IntKind.wrap_i64]; omega)) ?_
 refine vB (v := .int .u64 (((n * 8) % 18446744073709551616) / 2 ^ (8 * q) : Nat)) (hr := nr_shr64 (x := (n * 8) % 18446744073709551616) (n := 8 * q) (by omega)) ?_
 refine wpV_conv (d := .bool) (e := (((((n * 8) % 18446744073709551616) / 2 ^ (8 * q)) % 256 : Nat) : Int)) (by rfl) rfl rfl (run_conv_int U940 U95 (wrap_u8N _)) ?_
 simp only [Z0, Z6]
 refine wpV_idxs (n := ((1 + (239 - b.length) % 128 + 16) - 1) - q) (by rfl) rfl rfl rfl U929 info5 (by omega) ?_
 simp only [Z2]
 simp only [Z0, Z6]
 refine hLk _ fun w76 M => ?_
 refine lS1 (g := g12) (off := ((1 + (239 - b.length) % 128 + 16) - 1) - q) (n := 1 + (239 - b.length) % 128 + 16) (v := .int .u8 (((((n * 8) % 18446744073709551616) / 2 ^ (8 * q)) % 256 : Nat) : Int)) (M.t 0 rfl) (by omega) info5 rfl (fun w77 P R T => ?_)
 replace M := M.put1 (j := ((1 + (239 - b.length) % 128 + 16) - 1) - q) 0 rfl P R T (Z2 _).symm
 simp only [Z6] at M
 rw [tail_stepq _ _ hq] at M
 refine lZ k72 ?_; refine Z13 ?_
 refine cM 1 fun Lk hLk => ?_
 refine vB (v := .int .i64 (q + 1 : Nat)) (hr := run_add (by simp only [IntKind.wrap_i64]; omega)) ?_
 refine hLk _ fun w79 M => ?_
 refine lM ?_
 refine Z14 (Z15 ?_)
 refine Exists.intro _ ⟨?_, (q + 1), (fun q9 => (#[Z9, Z9, Z9, Z9, Z9, Z9, .int .i64 q, Z9, Z9, Z9, Z9, Z9, Z9, Z9, Z9, Z9, Z9, Z9, Z9, Z9, Z9, Z9, Z9, Z9, Z9, Z9, Z9, Z9, Z9, Z9, Z9, Z9, .bool true, .int .i64 q, .slice (some ⟨g12, 0, none⟩) (1 + (239 - b.length) % 128 + 16) (1 + (239 - b.length) % 128 + 16), .slice (some ⟨g12, 0, none⟩) (1 + (239 - b.length) % 128 + 16) (1 + (239 - b.length) % 128 + 16), .int .i64 (1 + (239 - b.length) % 128 + 16 : Nat), .int .i64 ((1 + (239 - b.length) % 128 + 16) - 1 : Nat), .int .i64 q, .int .i64 ((((1 + (239 - b.length) % 128 + 16) - 1) - q : Nat) : Int), .int .u64 ((n * 8) % 18446744073709551616 : Nat), .int .i64 q, .int .i64 (8 * q : Nat), .int .u64 (((n * 8) % 18446744073709551616) / 2 ^ (8 * q) : Nat), .int .u8 (((((n * 8) % 18446744073709551616) / 2 ^ (8 * q)) % 256 : Nat) : Int), .pointer (some ⟨g12, ((1 + (239 - b.length) % 128 + 16) - 1) - q, none⟩), .int .i64 (q + 1 : Nat)] : Array Value).getD q9 Z9), rfl, rfl, M, (by omega)⟩
 omega
end Go.Proofs.Yc

namespace Go.Proofs.Yc
open Go Go.RowKit Go.Proofs.Num
open Tryd renaming underlying37 → U937
open Go.Proofs.Num  renaming putT → Z0
open Nat renaming zero_add → Z2
open List renaming set → Z6
open Go renaming undef → Z9
open Go.Proofs.Num renaming wp_region_seq → Z13, wpL_nil → Z14, no_panic → Z15
attribute [local irreducible] wpV wpN wpList
open Go.Proofs.Ya
theorem mem_neKq {w0 w : World} {l : List Bk} {b : Bk} (h : Mem [] w0 w l) (k : Nat) (hk : l[k]? = some b) {n : Nat} (h0 : n < w0.heap.size) : b.g ≠ n := fun e => by
 rcases (h.ok b (mem_of hk)).own with ho | ho
 ·
  omega
 cases ho
set_option maxHeartbeats 1000000 in
theorem new_cq  {w : World}  :
  Calls Tryd.prog 122 #[] w fun e w' => e = .returned (.agg ([.int .u64 H0q.a, .int .u64 H0q.b, .int .u64 H0q.c, .int .u64 H0q.d, .int .u64 H0q.e, .int .u64 H0q.f, .int .u64 H0q.g, .int .u64 H0q.h] ++ [.string (bs [])] ++ [.int .u64 (0 : Nat)] : List Value).toArray) ∧ Below w.heap.size w w' := by
 go_enter Tryd.func122, Tryd.ntmps122
 have M := Mem.start w
 refine qS fun _ k1 => ?_
 refine nVs (segs := [(0, [.int .u64 0, .int .u64 0, .int .u64 0, .int .u64 0, .int .u64 0, .int .u64 0, .int .u64 0, .int .u64 0]), (8, [.string { data := #[] }]), (9, [.int .u64 0])]) 10 fun g3 w4 M => ?_
 refine lZ k1 ?_
 refine qS fun _ k5 => ?_
 refine cM 2 fun Lk hLk => ?_
 refine vGk (v := .agg ([.int .u64 7640891576956012808, .int .u64 13503953896175478587, .int .u64 4354685564936845355, .int .u64 11912009170470909681, .int .u64 5840696475078001361, .int .u64 11170449401992604703, .int .u64 2270897969802886507, .int .u64 6620516959819538809]).toArray) ?_
 simp only [Z0, Z6]
 refine vGk (v := .agg ([.int .u64 7640891576956012808, .int .u64 13503953896175478587, .int .u64 4354685564936845355, .int .u64 11912009170470909681, .int .u64 5840696475078001361, .int .u64 11170449401992604703, .int .u64 2270897969802886507, .int .u64 6620516959819538809, .string { data := #[] }, .int .u64 0]).toArray) ?_
 simp only [Z0, Z6]
 refine hLk _ fun w7 M => ?_
 refine sTs (segs' := [(0, [.int .u64 7640891576956012808, .int .u64 13503953896175478587, .int .u64 4354685564936845355, .int .u64 11912009170470909681, .int .u64 5840696475078001361, .int .u64 11170449401992604703, .int .u64 2270897969802886507, .int .u64 6620516959819538809]), (8, [.string { data := #[] }]), (9, [.int .u64 0])]) 0 fun w8 M => ?_
 refine lZ k5 ?_; refine rt ?_
 refine bodyPost_ret (v := .agg ([.int .u64 7640891576956012808, .int .u64 13503953896175478587, .int .u64 4354685564936845355, .int .u64 11912009170470909681, .int .u64 5840696475078001361, .int .u64 11170449401992604703, .int .u64 2270897969802886507, .int .u64 6620516959819538809] ++ [.string { data := #[] }] ++ [.int .u64 0] : List Value).toArray) (res1 rfl (.cell (by rfl) (run_loadVar_mid _ _ _ _ ([.int .u64 7640891576956012808, .int .u64 13503953896175478587, .int .u64 4354685564936845355, .int .u64 11912009170470909681, .int .u64 5840696475078001361, .int .u64 11170449401992604703, .int .u64 2270897969802886507, .int .u64 6620516959819538809] ++ [.string { data := #[] }] ++ [.int .u64 0]) _ (range_join (range_join (M.r 0 0 rfl rfl) (M.r 0 1 rfl rfl) (by simp [flen])) (M.r 0 2 rfl rfl) (by simp [flen])) Tryd.underlying171 rfl info171))) rfl ?_
 exact ⟨rfl, M.below⟩
set_option maxHeartbeats 2000000 in
theorem sum_cq {ps : List (List UInt8)} {g0 cg0 : Nat} {w : World} (hq : ps.length ≤ 4611686018427387904) (hp : ∀ k, (ps.getD k []).length ≤ 9223372036854775680) (L2 : 2 < w.heap.size) (R2_0 : w.rangeAt 2 0 kcellsq) (hcg0 : ps.length ≤ cg0) (Lg0 : g0 < w.heap.size) (Rg0_0 : w.rangeAt g0 0 (scells ps)) :
  Calls Tryd.prog 82 #[.slice (some ⟨g0, 0, none⟩) ps.length cg0] w fun e w' => e = .returned (.string (bs (shaq ps.flatten))) ∧ Below w.heap.size w w' := by
 go_enter Tryd.func82, Tryd.ntmps82
 have M := Mem.start w
 refine qS fun _ k1 => ?_
 refine lg ?_; refine lZ k1 ?_
 refine qS fun _ k3 => ?_
 refine cM 2 fun Lk hLk => ?_
 refine vC (fun W => new_cq) ?_
 refine vGk (v := .agg ([.int .u64 H0q.a, .int .u64 H0q.b, .int .u64 H0q.c, .int .u64 H0q.d, .int .u64 H0q.e, .int .u64 H0q.f, .int .u64 H0q.g, .int .u64 H0q.h] ++ [.string (bs [])] ++ [.int .u64 (0 : Nat)] : List Value).toArray) ?_
 simp only [Z0, Z6]
 refine hLk _ fun w5 M => ?_
 refine nVs (segs := [(0, [.int .u64 H0q.a, .int .u64 H0q.b, .int .u64 H0q.c, .int .u64 H0q.d, .int .u64 H0q.e, .int .u64 H0q.f, .int .u64 H0q.g, .int .u64 H0q.h]), (8, [.string (bs [])]), (9, [.int .u64 (0 : Nat)])]) 10 fun g6 w7 M => ?_
 refine lg ?_; refine lZ k3 ?_
 refine sk fun _ k8 => ?_
 refine qS fun _ k9 => ?_
 refine lM ?_
 refine cM 1 fun Lk hLk => ?_
 refine wpV_lenA (n := ps.length) (by rfl) rfl rfl rfl U937 ?_
 simp only [Z0, Z6]
 refine hLk _ fun w11 M => ?_
 refine lM ?_; refine lZ k9 ?_; refine wp_block ?_
 replace M := M.read (segs' := [(0, [.int .u64 ((takeHq H0q (ps.take 0).flatten).a : Nat), .int .u64 ((takeHq H0q (ps.take 0).flatten).b : Nat), .int .u64 ((takeHq H0q (ps.take 0).flatten).c : Nat), .int .u64 ((takeHq H0q (ps.take 0).flatten).d : Nat), .int .u64 ((takeHq H0q (ps.take 0).flatten).e : Nat), .int .u64 ((takeHq H0q (ps.take 0).flatten).f : Nat), .int .u64 ((takeHq H0q (ps.take 0).flatten).g : Nat), .int .u64 ((takeHq H0q (ps.take 0).flatten).h : Nat)]), (8, [.string (bs (takeRq (ps.take 0).flatten))]), (9, [.int .u64 (((ps.take 0).flatten.length % 18446744073709551616) : Nat)])]) 0 rfl (segs3 (by rw [show (ps.take 0).flatten = [] from rfl, take_zeroq.1]; exact (M.r 0 0 rfl rfl)) (by rw [show (ps.take 0).flatten = [] from rfl, take_zeroq.2]; exact (M.r 0 1 rfl rfl)) (by rw [show (ps.take 0).flatten = [] from rfl]; exact (M.r 0 2 rfl rfl)))
 simp only [Z6] at M
 refine wp_loop_ghost (fun n9 a9 W9 => ∃ (k : Nat) (u12 : Nat → Value), n9 = ps.length - k ∧ a9 = { tmps := #[.slice (some ⟨g0, 0, none⟩) ps.length cg0, Z9, .string (bs ([])), .pointer (some ⟨g6, 0, none⟩), Z9, u12 5, .agg ([.int .u64 H0q.a, .int .u64 H0q.b, .int .u64 H0q.c, .int .u64 H0q.d, .int .u64 H0q.e, .int .u64 H0q.f, .int .u64 H0q.g, .int .u64 H0q.h] ++ [.string (bs [])] ++ [.int .u64 (0 : Nat)] : List Value).toArray, .agg ([.int .u64 H0q.a, .int .u64 H0q.b, .int .u64 H0q.c, .int .u64 H0q.d, .int .u64 H0q.e, .int .u64 H0q.f, .int .u64 H0q.g, .int .u64 H0q.h] ++ [.string (bs [])] ++ [.int .u64 (0 : Nat)] : List Value).toArray, .pointer (some ⟨g6, 0, none⟩), .slice (some ⟨g0, 0, none⟩) ps.length cg0, .int .i64 ps.length, .int .i64 k, u12 12, u12 13, u12 14, u12 15, u12 16, u12 17, u12 18, Z9, Z9], defers := [] } ∧ Mem [] w W9 [⟨g6, 10, [(0, [.int .u64 ((takeHq H0q (ps.take k).flatten).a : Nat), .int .u64 ((takeHq H0q (ps.take k).flatten).b : Nat), .int .u64 ((takeHq H0q (ps.take k).flatten).c : Nat), .int .u64 ((takeHq H0q (ps.take k).flatten).d : Nat), .int .u64 ((takeHq H0q (ps.take k).flatten).e : Nat), .int .u64 ((takeHq H0q (ps.take k).flatten).f : Nat), .int .u64 ((takeHq H0q (ps.take k).flatten).g : Nat), .int .u64 ((takeHq H0q (ps.take k).flatten).h : Nat)]), (8, [.string (bs (takeRq (ps.take k).flatten))]), (9, [.int .u64 (((ps.take k).flatten.length % 18446744073709551616) : Nat)])]⟩] ∧ (k ≤ ps.length)) (ps.length - (0)) ?_ (fun n9 a9 W9 hI => ?_)
 ·
  exact ⟨0, (fun q9 => (#[Z9, Z9, Z9, Z9, Z9, Z9, Z9, Z9, Z9, Z9, Z9, Z9, Z9, Z9, Z9, Z9, Z9, Z9, Z9] : Array Value).getD q9 Z9), rfl, rfl, M, (by omega)⟩
 clear M
 obtain ⟨k, u12, rfl, rfl, M, hk4⟩ := hI
 obtain ⟨w13, rfl⟩ : ∃ W8, W8 = W9 := ⟨_, rfl⟩
 refine qS fun _ k14 => ?_
 refine cM 1 fun Lk hLk => ?_
 refine vB (v := .bool (decide (k < ps.length))) (hr := run_lssN k ps.length _ _) ?_
 refine hLk _ fun w16 M => ?_
 refine lZ k14 ?_
 refine sk fun _ k17 => ?_
 cases hc18 : (decide (k < ps.length))
 ·
  have ek : k = ps.length := by have := of_decide_eq_false hc18; omega
  subst ek
  refine cF ?_; refine eZ k8 ?_
  refine qS fun _ k19 => ?_
  refine lM ?_
  refine wpL_callM (f := 124) (args := #[.pointer (some ⟨g6, 0, none⟩)]) (R := fun v9 W9 => v9 = .string (bs (endLq (takeHq H0q (ps.take ps.length).flatten) (takeRq (ps.take ps.length).flatten) ((ps.take ps.length).flatten.length % 18446744073709551616))) ∧ Mem [g6] w16 W9 [⟨g6, 10, []⟩]) (by rfl) (by rfl) rfl Tryd.func124 (by kernel_rfl) (by kernel_rfl) (end_cq (h := (takeHq H0q (ps.take ps.length).flatten)) (b := (takeRq (ps.take ps.length).flatten)) (n := ((ps.take ps.length).flatten.length % 18446744073709551616)) (takeH_okq _ _ _ (Nat.le_refl _) H0_okq) (takeR_lenq _) (mod_lt64 _) (mem_neKq M 0 rfl L2) (M.oldL L2) (M.oldR R2_0 L2) (M.one 0 rfl)) (fun v9 w21 h9 => ?_)
  obtain ⟨rfl, M9⟩ := h9
  replace M := M.callM1 0 rfl M9
  simp only [Z6] at M
  simp only [Z0, Z6]
  refine lg ?_; refine lZ k19 ?_; refine rt1 ?_
  have BE := M.below
  exact ⟨by (rw [sha_flatq]; try rfl), BE⟩
 have hk : k < ps.length := of_decide_eq_true hc18
 refine cT ?_; refine sZ k17 ?_
 refine sk fun _ k22 => ?_
 refine wp_block ?_
 refine qS fun _ k23 => ?_
 refine cM 2 fun Lk hLk => ?_
 refine wpV_idxs (n := k) (by rfl) rfl rfl rfl U937 info9 (by omega) ?_
 simp only [Z2]
 simp only [Z0, Z6]
 refine vQ (v := .string (bs (ps.getD k []))) (hc := (zadd ((M.oldR Rg0_0 Lg0) _ _ (scells_get (ps := ps) (by omega))))) (hb := (M.oldL Lg0)) ?_
 refine hLk _ fun w25 M => ?_
 refine lg ?_; refine lZ k23 ?_; refine Z13 ?_; refine lM ?_; refine lM ?_
 refine wpL_callM (f := 123) (args := #[.pointer (some ⟨g6, 0, none⟩), .string (bs (ps.getD k []))]) (R := fun v9 W9 => v9 = .tuple #[] ∧ Mem [g6] w25 W9 [⟨g6, 10, [(0, [.int .u64 (((takeHq (takeHq H0q (ps.take k).flatten) ((takeRq (ps.take k).flatten) ++ (ps.getD k []))).a : Nat) : Int), .int .u64 (((takeHq (takeHq H0q (ps.take k).flatten) ((takeRq (ps.take k).flatten) ++ (ps.getD k []))).b : Nat) : Int), .int .u64 (((takeHq (takeHq H0q (ps.take k).flatten) ((takeRq (ps.take k).flatten) ++ (ps.getD k []))).c : Nat) : Int), .int .u64 (((takeHq (takeHq H0q (ps.take k).flatten) ((takeRq (ps.take k).flatten) ++ (ps.getD k []))).d : Nat) : Int), .int .u64 (((takeHq (takeHq H0q (ps.take k).flatten) ((takeRq (ps.take k).flatten) ++ (ps.getD k []))).e : Nat) : Int), .int .u64 (((takeHq (takeHq H0q (ps.take k).flatten) ((takeRq (ps.take k).flatten) ++ (ps.getD k []))).f : Nat) : Int), .int .u64 (((takeHq (takeHq H0q (ps.take k).flatten) ((takeRq (ps.take k).flatten) ++ (ps.getD k []))).g : Nat) : Int), .int .u64 (((takeHq (takeHq H0q (ps.take k).flatten) ((takeRq (ps.take k).flatten) ++ (ps.getD k []))).h : Nat) : Int)]), (8, [.string (bs (takeRq ((takeRq (ps.take k).flatten) ++ (ps.getD k []))))]), (9, [.int .u64 ((((((ps.take k).flatten.length % 18446744073709551616) + (ps.getD k []).length) % 18446744073709551616) : Nat) : Int)])]⟩]) (by rfl) (by rfl) rfl Tryd.func123 (by kernel_rfl) (by kernel_rfl) (take_cq (h := (takeHq H0q (ps.take k).flatten)) (b := (takeRq (ps.take k).flatten)) (l := (ps.getD k [])) (n := ((ps.take k).flatten.length % 18446744073709551616)) (takeH_okq _ _ _ (Nat.le_refl _) H0_okq) (takeR_lenq _) (hp k) (mem_neKq M 0 rfl L2) (M.oldL L2) (M.oldR R2_0 L2) (M.one 0 rfl)) (fun v9 w27 h9 => ?_)
 obtain ⟨rfl, M9⟩ := h9
 replace M := M.callM1 0 rfl M9
 simp only [Z6] at M
 simp only [Z0, Z6]
 refine Z14 (Z15 ?_)
 rw [← takeH_appendq, ← takeR_appendq, len_step, flat_step hk] at M
 refine k22 _ _ ?_; refine Z13 ?_
 refine cM 1 fun Lk hLk => ?_
 refine vB (v := .int .i64 (k + 1 : Nat)) (hr := run_add (by simp only [IntKind.wrap_i64]; omega)) ?_
 refine hLk _ fun w29 M => ?_
 refine lM ?_
 refine Z14 (Z15 ?_)
 refine Exists.intro _ ⟨?_, (k + 1), (fun q9 => (#[Z9, Z9, Z9, Z9, Z9, .string (bs (ps.getD k [])), Z9, Z9, Z9, Z9, Z9, Z9, .bool true, .pointer (some ⟨g0, k, none⟩), .string (bs (ps.getD k [])), .pointer (some ⟨g6, 0, none⟩), .string (bs (ps.getD k [])), .tuple #[], .int .i64 (k + 1 : Nat)] : Array Value).getD q9 Z9), rfl, rfl, M, (by omega)⟩
 omega
end Go.Proofs.Yc

