/- The tables of keys as they are laid: what the walks read. -/
import Derived.Test.YtpgpjoldelobdaaDoorRows
import Derived.Test.YtpgpjoldelobdaaDoorShq
import Derived.Test.YtpgpjoldelobdaaDoorProg
import Derived.Test.YtpgpjoldelobdaaDoorSteps4
import Derived.WalkKit
import Derived.WalkSpells
import Derived.Laws.Pointers
import Derived.RowKit3
import Derived.Below
import Derived.Outline
import Derived.Shelf.Spec.BitsCarry
import Derived.LoopN
import Derived.Lib.Hide
import Derived.Handy
import Derived.Shelf.Bits.Mul64
set_option linter.unusedSimpArgs false
set_option linter.unusedVariables false
namespace Go.Proofs.Yc
open Go Go.RowKit Go.ChangeShapes Go.WideShapes Go.ChangeAt Go.Proofs.Num Go.Proofs.YtpgpjoldelobdaaDoor
open Nat renaming zero_add → Z2
def laidB : List (String × DataW Unit) := [("imprimatur/sha256.keys", Rows.laid_imprimatur_sha256_keys), ("imprimatur/sha512.keys", Rows.laid_imprimatur_sha512_keys)]
theorem ownB : ownKnob Tryd.prog.godebug = none := by kernel_rfl
theorem laidOutB' : laidOutB Tryd.prog = true := by kernel_rfl
theorem door_met (os : Os) (args : Array Value) : laidMetH Tryd.prog laidB ((World.doorLaid Tryd.prog 400 os).forCall (fun _ _ => 0) ⟨#[], args, []⟩).memory :=
 laidMetH_of_parts3 (fuel := 8) (laidMet_of_run' 8 (by kernel_rfl) (by kernel_rfl)) (by kernel_rfl) (by kernel_rfl)
theorem gKeys0 : Tryd.prog.globalNamed "imprimatur/sha256.keys" = some 1 := by kernel_rfl
theorem tKeys0 : (Tryd.prog.globals[1]?).map (·.type) = some 196 := by kernel_rfl
theorem keysD0 : Rows.laid_imprimatur_sha256_keys (H := Unit) = .agg (keyL.map fun n => .lit (.int .u32 ((n : Nat) : Int))) := by kernel_rfl
theorem of_laid0 {H : Type} {enc : TypeId × Value → H} {W : World} {b : Nat} {sp : Nat → Bool} {hd : Bool} {g0 : Nat} {t0 : TypeId} {cs0 : Array Value} {ps : List MemPlace} {n0 : Nat} (hg0 : Tryd.prog.globalNamed "imprimatur/sha256.keys" = some g0) (ht0 : (Tryd.prog.globals[g0]?).map (·.type) = some t0) (hv0 : W.var? Tryd.prog "imprimatur/sha256.keys" = some cs0)
  (hd0 : DataW.trod enc Tryd.prog W b sp hd n0 t0 cs0.toList = some (.agg (keyL.map fun n => .lit (.int .u32 ((n : Nat) : Int))), ps)) : 1 < W.heap.size ∧ W.rangeAt 1 0 kcells := by
 obtain rfl := Option.some.inj (gKeys0.symm.trans hg0)
 obtain rfl := Option.some.inj (tKeys0.symm.trans ht0)
 obtain ⟨xs, m1, hx0, hx1, hlen, hn3, hel⟩ := DataW.trod_array Tryd.underlying196 hd0
 have c1 : Tryd.prog.cellsOf 147 = 1 := by kernel_rfl
 rw [c1] at hel
 simp only [Prod.mk.injEq] at hx1
 have hx2 : xs.map (·.1) = keyL.map fun n => .lit (.int .u32 ((n : Nat) : Int)) := by
  have := hx1.1.symm
  injection this
 have hk : keyL.length = 64 := by decide
 have hcell : W.rangeAt 1 0 kcells := fun j v hv => by
  have := World.var?_cell hg0 hv0 j
  rw [Z2, this]
  have h2 := cells_of_ints (P := Tryd.prog) (cs := cs0.toList) Tryd.underlying147 (hn3.trans hk.symm) hx2 (fun i hi => hel i (by omega)) j v hv
  simpa using h2
 refine ⟨?_, hcell⟩
 have h0 := hcell 0 _ (kcells_get (t := 0) (by decide))
 unfold World.cell? at h0
 split at h0
 ·
  rename_i hh
  exact (Array.getElem?_eq_some_iff.1 hh).1
 cases h0
theorem gKeys1 : Tryd.prog.globalNamed "imprimatur/sha512.keys" = some 2 := by kernel_rfl
theorem tKeys1 : (Tryd.prog.globals[2]?).map (·.type) = some 201 := by kernel_rfl
theorem keysD1 : Rows.laid_imprimatur_sha512_keys (H := Unit) = .agg (keyLq.map fun n => .lit (.int .u64 ((n : Nat) : Int))) := by kernel_rfl
theorem of_laid1 {H : Type} {enc : TypeId × Value → H} {W : World} {b : Nat} {sp : Nat → Bool} {hd : Bool} {g0 : Nat} {t0 : TypeId} {cs0 : Array Value} {ps : List MemPlace} {n0 : Nat} (hg0 : Tryd.prog.globalNamed "imprimatur/sha512.keys" = some g0) (ht0 : (Tryd.prog.globals[g0]?).map (·.type) = some t0) (hv0 : W.var? Tryd.prog "imprimatur/sha512.keys" = some cs0)
  (hd0 : DataW.trod enc Tryd.prog W b sp hd n0 t0 cs0.toList = some (.agg (keyLq.map fun n => .lit (.int .u64 ((n : Nat) : Int))), ps)) : 2 < W.heap.size ∧ W.rangeAt 2 0 kcellsq := by
 obtain rfl := Option.some.inj (gKeys1.symm.trans hg0)
 obtain rfl := Option.some.inj (tKeys1.symm.trans ht0)
 obtain ⟨xs, m1, hx0, hx1, hlen, hn3, hel⟩ := DataW.trod_array Tryd.underlying201 hd0
 have c1 : Tryd.prog.cellsOf 40 = 1 := by kernel_rfl
 rw [c1] at hel
 simp only [Prod.mk.injEq] at hx1
 have hx2 : xs.map (·.1) = keyLq.map fun n => .lit (.int .u64 ((n : Nat) : Int)) := by
  have := hx1.1.symm
  injection this
 have hk : keyLq.length = 80 := by decide
 have hcell : W.rangeAt 2 0 kcellsq := fun j v hv => by
  have := World.var?_cell hg0 hv0 j
  rw [Z2, this]
  have h2 := cells_of_ints (P := Tryd.prog) (cs := cs0.toList) Tryd.underlying40 (hn3.trans hk.symm) hx2 (fun i hi => hel i (by omega)) j v hv
  simpa using h2
 refine ⟨?_, hcell⟩
 have h0 := hcell 0 _ (kcells_getq (t := 0) (by decide))
 unfold World.cell? at h0
 split at h0
 ·
  rename_i hh
  exact (Array.getElem?_eq_some_iff.1 hh).1
 cases h0
theorem of_laid {W : World} (h : laidMetH Tryd.prog laidB W) : (1 < W.heap.size ∧ W.rangeAt 1 0 kcells) ∧ (2 < W.heap.size ∧ W.rangeAt 2 0 kcellsq) := by
 rw [MakeChecks.laidMetH_plain _ _ _ (by kernel_rfl)] at h
 obtain ⟨ps0, ⟨g0, t0, cs0, f0, p0, q0, hg0, ht0, hv0, hd0, ⟨g1, t1, cs1, f1, p1, q1, hg1, ht1, hv1, hd1, _, _⟩, _⟩, _, _⟩ := h
 rw [keysD0] at hd0
 rw [keysD1] at hd1
 exact ⟨of_laid0 hg0 ht0 hv0 hd0, of_laid1 hg1 ht1 hv1 hd1⟩
end Go.Proofs.Yc

namespace Go.Proofs.Ya
open Go Go.RowKit Go.Shelf Go.Proofs.Num

theorem add64 {x y c : Int} (hx : Wd x) (hy : Wd y) (hc : 0 ≤ c ∧ c ≤ 1) (w : World) : (callFunc 85 #[.int .u64 x, .int .u64 y, .int .u64 c]).run Tryd.prog w =
  .ok (.value (.tuple #[.int .u64 (ad x y c), .int .u64 (ac x y c)])) w := by
 obtain ⟨x, rfl⟩ := Int.eq_ofNat_of_zero_le hx.1
 obtain ⟨y, rfl⟩ := Int.eq_ofNat_of_zero_le hy.1
 obtain ⟨c, rfl⟩ := Int.eq_ofNat_of_zero_le hc.1
 rw [run_callFunc_extern (fn := Tryd.f85) Tryd.func85 (by kernel_rfl) (by kernel_rfl) (by kernel_rfl) (e := add64Entry) (by kernel_rfl), run_add64 x y c (by omega) (by omega) (by omega) (by omega)]
 rfl
theorem sub64 {x y b : Int} (hx : Wd x) (hy : Wd y) (hb : 0 ≤ b ∧ b ≤ 1) (w : World) : (callFunc 149 #[.int .u64 x, .int .u64 y, .int .u64 b]).run Tryd.prog w =
  .ok (.value (.tuple #[.int .u64 (sd x y b), .int .u64 (sb x y b)])) w := by
 have hy' := hy.2
 obtain ⟨x, rfl⟩ := Int.eq_ofNat_of_zero_le hx.1
 obtain ⟨y, rfl⟩ := Int.eq_ofNat_of_zero_le hy.1
 obtain ⟨b, rfl⟩ := Int.eq_ofNat_of_zero_le hb.1
 have e1 : (((x + 18446744073709551616 - y - b) % 18446744073709551616 : Nat) : Int) = sd x y b := by unfold sd; omega
 have e2 : ((if x < y + b then 1 else 0 : Nat) : Int) = sb x y b := by unfold sb; split <;> split <;> omega
 rw [← e1, ← e2]
 rw [run_callFunc_extern (fn := Tryd.f149) Tryd.func149 (by kernel_rfl) (by kernel_rfl) (by kernel_rfl) (e := sub64Entry) (by kernel_rfl), run_sub64 x y b (by omega)]
 rfl
set_option maxHeartbeats 400000 in
theorem sminus_c {x y : Nat} (hx : x < 2 ^ 256) (hy : y < 2 ^ 256) (w : World) :
  Calls Tryd.prog 125 #[fe x, fe y] w fun e w' => e = .returned (.tuple #[fe (subW x y), .int .u64 (subB x y)]) ∧ Below w.heap.size w w' := by
 rw [fe_lit x, fe_lit y]
 obtain ⟨c1, c2⟩ := sub_chain x y hx hy
 have H1 := Lib.hid c1
 have H2 := Lib.hid c2
 clear c1 c2
 go_enter Tryd.func125, Tryd.ntmps125
 have h0 := sub64 (limb_wd x 0) (limb_wd y 0) (b := 0) ⟨by omega, by omega⟩
 have h1 := sub64 (limb_wd x 1) (limb_wd y 1) (sb_01 (limb x 0) (limb y 0) 0)
 have h2 := sub64 (limb_wd x 2) (limb_wd y 2) (sb_01 (limb x 1) (limb y 1) (sb (limb x 0) (limb y 0) 0))
 have h3 := sub64 (limb_wd x 3) (limb_wd y 3) (sb_01 (limb x 2) (limb y 2) (sb (limb x 1) (limb y 1) (sb (limb x 0) (limb y 0) 0)))
 
 go_wp2
 refine wp_loop_rounds 5 ?_
 iterate 4
  rw [rounds_succ]
  go_wp2
  go_region
  go_wp2
 rw [rounds_succ]
 go_wp2
 refine bodyPost_ret (v := .tuple #[fe (subW x y), .int .u64 (subB x y)]) ?_ rfl ⟨rfl, ?_⟩
 ·
  have e1 : fe (subW x y) = _ := H1.out.symm
  have e2 : (subB x y) = _ := H2.out.symm
  rw [e1, e2]
  simp [results, Tryd.results125, go_sem]
 go_grown
set_option maxHeartbeats 400000 in
theorem minus_c {x y : Nat} (hx : x < 2 ^ 256) (hy : y < 2 ^ 256) (w : World) :
  Calls Tryd.prog 131 #[fe x, fe y] w fun e w' => e = .returned (.tuple #[fe (subW x y), .int .u64 (subB x y)]) ∧ Below w.heap.size w w' := by
 rw [fe_lit x, fe_lit y]
 obtain ⟨c1, c2⟩ := sub_chain x y hx hy
 have H1 := Lib.hid c1
 have H2 := Lib.hid c2
 clear c1 c2
 go_enter Tryd.func131, Tryd.ntmps131
 have h0 := sub64 (limb_wd x 0) (limb_wd y 0) (b := 0) ⟨by omega, by omega⟩
 have h1 := sub64 (limb_wd x 1) (limb_wd y 1) (sb_01 (limb x 0) (limb y 0) 0)
 have h2 := sub64 (limb_wd x 2) (limb_wd y 2) (sb_01 (limb x 1) (limb y 1) (sb (limb x 0) (limb y 0) 0))
 have h3 := sub64 (limb_wd x 3) (limb_wd y 3) (sb_01 (limb x 2) (limb y 2) (sb (limb x 1) (limb y 1) (sb (limb x 0) (limb y 0) 0)))
 
 go_wp2
 refine wp_loop_rounds 5 ?_
 iterate 4
  rw [rounds_succ]
  go_wp2
  go_region
  go_wp2
 rw [rounds_succ]
 go_wp2
 refine bodyPost_ret (v := .tuple #[fe (subW x y), .int .u64 (subB x y)]) ?_ rfl ⟨rfl, ?_⟩
 ·
  have e1 : fe (subW x y) = _ := H1.out.symm
  have e2 : (subB x y) = _ := H2.out.symm
  rw [e1, e2]
  simp [results, Tryd.results131, go_sem]
 go_grown
set_option maxHeartbeats 400000 in
theorem plus_c {x y : Nat} (hx : x < 2 ^ 256) (hy : y < 2 ^ 256) (w : World) :
  Calls Tryd.prog 150 #[fe x, fe y] w fun e w' => e = .returned (.tuple #[fe (addW x y), .int .u64 (addC x y : Nat)]) ∧ Below w.heap.size w w' := by
 rw [fe_lit x, fe_lit y]
 obtain ⟨c1, c2⟩ := add_chain x y hx hy
 have H1 := Lib.hid c1
 have H2 := Lib.hid c2
 clear c1 c2
 go_enter Tryd.func150, Tryd.ntmps150
 have k0 := ac_01 (limb_wd x 0) (limb_wd y 0) (c := 0) ⟨by omega, by omega⟩
 have k1 := ac_01 (limb_wd x 1) (limb_wd y 1) k0
 have k2 := ac_01 (limb_wd x 2) (limb_wd y 2) k1
 have h0 := add64 (limb_wd x 0) (limb_wd y 0) (c := 0) ⟨by omega, by omega⟩
 have h1 := add64 (limb_wd x 1) (limb_wd y 1) k0
 have h2 := add64 (limb_wd x 2) (limb_wd y 2) k1
 have h3 := add64 (limb_wd x 3) (limb_wd y 3) k2
 clear k0 k1 k2
 go_wp2
 refine wp_loop_rounds 5 ?_
 iterate 4
  rw [rounds_succ]
  go_wp2
  go_region
  go_wp2
 rw [rounds_succ]
 go_wp2
 refine bodyPost_ret (v := .tuple #[fe (addW x y), .int .u64 (addC x y : Nat)]) ?_ rfl ⟨rfl, ?_⟩
 ·
  have e1 : fe (addW x y) = _ := H1.out.symm
  have e2 : ((addC x y : Nat) : Int) = _ := H2.out.symm
  rw [e1, e2]
  simp [results, Tryd.results150, go_sem]
 go_grown
theorem order_c (w : World) : Calls Tryd.prog 126 #[] w fun e w' => e = .returned (fe ordL) ∧ Below w.heap.size w w' := by
 have hl : fe ordL = .agg #[.int .u64 6346243789798364141, .int .u64 1503914060200516822, .int .u64 0, .int .u64 1152921504606846976] := by kernel_rfl
 rw [hl]
 go_enter Tryd.func126, Tryd.ntmps126
 go_wp2
 go_returns
 exact ⟨rfl, by go_grown⟩
theorem prime_c (w : World) : Calls Tryd.prog 132 #[] w fun e w' => e = .returned (fe pF) ∧ Below w.heap.size w w' := by
 have hl : fe pF = .agg #[.int .u64 18446744073709551597, .int .u64 18446744073709551615, .int .u64 18446744073709551615, .int .u64 9223372036854775807] := by kernel_rfl
 rw [hl]
 go_enter Tryd.func132, Tryd.ntmps132
 go_wp2
 go_returns
 exact ⟨rfl, by go_grown⟩
set_option maxHeartbeats 1000000 in
theorem mul64_c {x y : Nat} (hx : x < 18446744073709551616) (hy : y < 18446744073709551616) (w : World) :
  Calls Tryd.prog 87 #[.int .u64 (x : Nat), .int .u64 (y : Nat)] w fun e w' => e = .returned (.tuple #[.int .u64 (x * y / 18446744073709551616 : Nat), .int .u64 (x * y % 18446744073709551616 : Nat)]) ∧ Below w.heap.size w w' := by
 obtain ⟨bd, bt, bw, hhi⟩ := Lib.mul64_hi x y hx hy
 have ba := Lib.half_mul_le (a := x / 4294967296) (b := y / 4294967296) (by omega) (by omega)
 have bb := Lib.half_mul_le (a := x / 4294967296) (b := y % 4294967296) (by omega) (by omega)
 have bc := Lib.half_mul_le (a := x % 4294967296) (b := y / 4294967296) (by omega) (by omega)
 have ba' : x / 4294967296 * (y / 4294967296) < 18446744073709551616 := by omega
 have bb' : x / 4294967296 * (y % 4294967296) < 18446744073709551616 := by omega
 have bc' : x % 4294967296 * (y / 4294967296) < 18446744073709551616 := by omega
 have bh1 : x / 4294967296 * (y / 4294967296) + (x / 4294967296 * (y % 4294967296) + x % 4294967296 * (y % 4294967296) / 4294967296) / 4294967296 < 18446744073709551616 := by omega
 have bh : x / 4294967296 * (y / 4294967296) + (x / 4294967296 * (y % 4294967296) + x % 4294967296 * (y % 4294967296) / 4294967296) / 4294967296 + ((x / 4294967296 * (y % 4294967296) + x % 4294967296 * (y % 4294967296) / 4294967296) % 4294967296 + x % 4294967296 * (y / 4294967296)) / 4294967296 < 18446744073709551616 := by omega
 go_enter Tryd.func87, Tryd.ntmps87
 go_wp2
 simp only [Mul64.maskN x hx, Mul64.maskN y hy, Mul64.divN, Mul64.mulN, Mul64.addN, Mul64.wrapN _ bd, Mul64.wrapN _ bb', Mul64.wrapN _ bt, Mul64.maskN _ bt, Mul64.wrapN _ bc', Mul64.wrapN _ bw, Mul64.wrapN _ ba', Mul64.wrapN _ bh1, Mul64.wrapN _ bh, Mul64.wrapM (x * y)]
 rw [hhi]
 go_ret2
 exact ⟨rfl, Below.refl _ _⟩
theorem addN {x y c : Nat} (hx : x < 18446744073709551616) (hy : y < 18446744073709551616) (hc : c ≤ 1) (w : World) : (callFunc 85 #[.int .u64 (x : Nat), .int .u64 (y : Nat), .int .u64 (c : Nat)]).run Tryd.prog w =
  .ok (.value (.tuple #[.int .u64 ((x + y + c) % 18446744073709551616 : Nat), .int .u64 ((x + y + c) / 18446744073709551616 : Nat)])) w := by
 refine (add64 (x := x) (y := y) (c := c) ⟨by omega, by omega⟩ ⟨by omega, by omega⟩ ⟨by omega, by omega⟩ w).trans ?_
 unfold ad ac
 congr 5
end Go.Proofs.Ya

namespace Go.Proofs.Ya
open Go Go.RowKit Go.Shelf Go.Proofs.Num
open Tryd renaming func131 → G9131, func132 → G9132, underlying86 → U986
open Go.Proofs.Num  renaming putT → Z0
open Nat renaming lt_of_lt_of_le → Z1, le_trans → Z3, ne_of_lt → Z4
open List renaming set → Z6, take → Z7, drop → Z8
open Go renaming wp_seq_k → Z10, wp_cond_true → Z11, wp_cond_false → Z12
open Go.Proofs.Num renaming wpL_nil → Z14, no_panic → Z15, wpV_nil → Z19, then_normal → Z22, wpV_callf → Z25, range_sees → Z26, there_sees → Z27, wpN_skip → Z28, wpN_nil → Z29, wp_region_plain → Z30, wpV_extract → Z32
theorem info86 : (Tryd.prog.info? 86).map (·.size) = some 4 := by kernel_rfl
set_option maxHeartbeats 1000000 in
theorem least_c {x : Nat} (hx : x < 2 ^ 256) (w : World) :
  Calls Tryd.prog 127 #[fe x] w fun e w' => e = .returned (fe (leastF x)) ∧ Below w.heap.size w w' := by
 go_enter Tryd.func127, Tryd.ntmps127
 have BE := Below.refl w.heap.size w
 refine Z10 (fun K1 hK1 => ?_)
 refine Z30 2 (by kernel_rfl) (fun Lk hLk => ?_)
 simp only [Z7, Z8]
 refine vAl ?_
 refine vAl ?_
 refine Z19 (hLk.out _ ?_)
 simp only [Z7, Z8]
 refine wpN_new (t := 86) (cs := (fel x).toArray) (by rfl) (fun W => ?_) (fun g3 Hg3 ng3 => ?_)
 ·
  (first | rfl | go_simp)
 refine wpN_new (t := 86) (cs := ([.int .u64 0, .int .u64 0, .int .u64 0, .int .u64 0]).toArray) (by rfl) (fun W => ?_) (fun g4 Hg4 ng4 => ?_)
 ·
  go_simp
 simp only [Z0, Z6]
 refine Z29 (fun w5 Sw5 hbs => ?_)
 have Bg3 : Blk w5 g3 86 (fel x).toArray := hbs _ (List.mem_cons_of_mem _ (List.mem_cons_self ..))
 have Bg4 : Blk w5 g4 86 ([.int .u64 0, .int .u64 0, .int .u64 0, .int .u64 0]).toArray := hbs _ (List.mem_cons_self ..)
 clear hbs
 have Gg3 : w.heap.size ≤ g3 := Z3 BE.size Hg3
 have Ng3_g4 : g3 ≠ g4 := ng4 (g3, _, _) (List.mem_cons_self ..)
 have Gg4 : w.heap.size ≤ g4 := Z3 BE.size Hg4
 replace BE := BE.trans (Sw5.2.2.mono BE.size)
 have Tg3 := blk_there Bg3 (n := 4) (by simp [flen])
 have Rg3_0 := blk_range Bg3 (l := fel x) rfl
 have Lg3 := Bg3.lt
 have Tg4 := blk_there Bg4 (n := 4) (by simp [flen])
 have Rg4_0 := blk_range Bg4 (l := [.int .u64 0, .int .u64 0, .int .u64 0, .int .u64 0]) rfl
 have Lg4 := Bg4.lt
 clear ng3 ng4 Bg3 Bg4
 refine lNp (hK1 _ _ ?_)
 refine Z10 (fun K6 hK6 => ?_)
 refine Z10 (fun K7 hK7 => ?_)
 refine Z30 1 (by kernel_rfl) (fun Lk hLk => ?_)
 simp only [Z7, Z8]
 refine vMv (v := .int .i64 0) ?_
 simp only [Z0, Z6]
 refine Z19 (hLk.out _ ?_)
 simp only [Z7, Z8]
 iterate 1 refine Z28 (by rfl) ?_
 refine Z29 (fun w9 Sw9 hbs => ?_)
 clear hbs
 replace Rg3_0 := Z26 Rg3_0 Lg3 Sw9
 replace Tg3 := Z27 Tg3 Lg3 Sw9
 replace Rg4_0 := Z26 Rg4_0 Lg4 Sw9
 replace Tg4 := Z27 Tg4 Lg4 Sw9
 replace Lg3 := Z1 Lg3 Sw9.2.2.size
 replace Lg4 := Z1 Lg4 Sw9.2.2.size
 replace BE := BE.trans (Sw9.2.2.mono BE.size)
 refine lNp (hK7 _ _ ?_)
 refine wp_block ?_
 refine wp_loop_rounds 3 ?_
 rw [rounds_succ]
 refine Z10 (fun K10 hK10 => ?_)
 refine Z30 1 (by kernel_rfl) (fun Lk hLk => ?_)
 simp only [Z7, Z8]
 refine vBn (v := .bool true) (hr := fun W => run_lss _ _ _ _ W) ?_
 simp only [Z0, Z6]
 refine Z19 (hLk.out _ ?_)
 simp only [Z7, Z8]
 iterate 1 refine Z28 (by rfl) ?_
 refine Z29 (fun w12 Sw12 hbs => ?_)
 clear hbs
 replace Rg3_0 := Z26 Rg3_0 Lg3 Sw12
 replace Tg3 := Z27 Tg3 Lg3 Sw12
 replace Rg4_0 := Z26 Rg4_0 Lg4 Sw12
 replace Tg4 := Z27 Tg4 Lg4 Sw12
 replace Lg3 := Z1 Lg3 Sw12.2.2.size
 replace Lg4 := Z1 Lg4 Sw12.2.2.size
 replace BE := BE.trans (Sw12.2.2.mono BE.size)
 refine lNp (hK10 _ _ ?_)
 refine Z10 (fun K13 hK13 => ?_)
 refine Z11 rfl ?_
 refine wp_skip ?_
 refine hK13 _ _ ?_
 refine Z10 (fun K14 hK14 => ?_)
 refine wp_block ?_
 refine Z10 (fun K15 hK15 => ?_)
 refine wp_region_grow 7 [5] (by kernel_rfl) (by kernel_rfl) (by kernel_rfl) (fun Lk hLk => ?_)
 simp only [Z7, Z8]
 refine vLd (cs := fel x) Rg3_0 Lg3 U986 info86 ?_
 simp only [Z0, Z6]
 refine Z25 (v := fe pF) (args := #[]) (by rfl) rfl G9132 (by kernel_rfl) (by kernel_rfl) rfl (fun W hW => prime_c W) ?_
 simp only [Z0, Z6]
 refine Z25 (v := .tuple #[fe (subW x pF), .int .u64 (subB x pF)]) (args := #[fe x, fe pF]) (by rfl) rfl G9131 (by kernel_rfl) (by kernel_rfl) rfl (fun W hW => minus_c hx pF_lt W) ?_
 simp only [Z0, Z6]
 refine vMv (v := .tuple #[fe (subW x pF), .int .u64 (subB x pF)]) ?_
 simp only [Z0, Z6]
 refine Z32 (v := fe (subW x pF)) (by rfl) rfl rfl rfl ?_
 simp only [Z0, Z6]
 refine Z32 (v := .int .u64 (subB x pF)) (by rfl) rfl rfl rfl ?_
 simp only [Z0, Z6]
 refine vAl ?_
 refine Z19 (hLk.out _ ?_)
 simp only [Z7, Z8]
 iterate 6 refine Z28 (by rfl) ?_
 refine wpN_new (t := 86) (cs := ([.int .u64 0, .int .u64 0, .int .u64 0, .int .u64 0]).toArray) (by rfl) (fun W => ?_) (fun g17 Hg17 ng17 => ?_)
 ·
  go_simp
 simp only [Z0, Z6]
 refine Z29 (fun w18 Sw18 hbs => ?_)
 have Bg17 : Blk w18 g17 86 ([.int .u64 0, .int .u64 0, .int .u64 0, .int .u64 0]).toArray := hbs _ (List.mem_cons_self ..)
 clear hbs
 have Ng3_g17 : g3 ≠ g17 := Z4 (Z1 Lg3 Hg17)
 have Ng4_g17 : g4 ≠ g17 := Z4 (Z1 Lg4 Hg17)
 have Gg17 : w.heap.size ≤ g17 := Z3 BE.size Hg17
 replace Rg3_0 := Z26 Rg3_0 Lg3 Sw18
 replace Tg3 := Z27 Tg3 Lg3 Sw18
 replace Rg4_0 := Z26 Rg4_0 Lg4 Sw18
 replace Tg4 := Z27 Tg4 Lg4 Sw18
 replace Lg3 := Z1 Lg3 Sw18.2.2.size
 replace Lg4 := Z1 Lg4 Sw18.2.2.size
 replace BE := BE.trans (Sw18.2.2.mono BE.size)
 have Tg17 := blk_there Bg17 (n := 4) (by simp [flen])
 have Rg17_0 := blk_range Bg17 (l := [.int .u64 0, .int .u64 0, .int .u64 0, .int .u64 0]) rfl
 have Lg17 := Bg17.lt
 clear ng17 Bg17
 refine lSt (g := g17) (off := 0) (n := 4) (cs := fel (subW x pF)) Tg17 (by simp [flen]) info86 (fel_one _) (fun w19 Pw19 RR TT => ?_)
 replace Rg3_0 := Pw19.range Rg3_0 (.inl Ng3_g17)
 replace Tg3 := Pw19.other_there Tg3 Ng3_g17
 replace Rg4_0 := Pw19.range Rg4_0 (.inl Ng4_g17)
 replace Tg4 := Pw19.other_there Tg4 Ng4_g17
 replace Rg17_0 := RR
 clear RR
 replace Tg17 := TT
 replace Lg3 := Pw19.lt Lg3
 replace Lg4 := Pw19.lt Lg4
 replace Lg17 := Pw19.lt Lg17
 replace BE := Pw19.below BE Gg17
 refine lAs (v := .int .u64 (subB x pF)) ?_
 simp only [Z0, Z6]
 refine lNp (hK15 _ _ ?_)
 refine Z10 (fun K20 hK20 => ?_)
 refine Z30 2 (by kernel_rfl) (fun Lk hLk => ?_)
 simp only [Z7, Z8]
 refine vMv (v := .int .u64 (subB x pF)) ?_
 simp only [Z0, Z6]
 refine vBn (v := .bool ((subB x pF) == 0)) (hr := fun W => run_eql _ _ _ _ W) ?_
 simp only [Z0, Z6]
 refine Z19 (hLk.out _ ?_)
 simp only [Z7, Z8]
 iterate 2 refine Z28 (by rfl) ?_
 refine Z29 (fun w22 Sw22 hbs => ?_)
 clear hbs
 replace Rg3_0 := Z26 Rg3_0 Lg3 Sw22
 replace Tg3 := Z27 Tg3 Lg3 Sw22
 replace Rg4_0 := Z26 Rg4_0 Lg4 Sw22
 replace Tg4 := Z27 Tg4 Lg4 Sw22
 replace Rg17_0 := Z26 Rg17_0 Lg17 Sw22
 replace Tg17 := Z27 Tg17 Lg17 Sw22
 replace Lg3 := Z1 Lg3 Sw22.2.2.size
 replace Lg4 := Z1 Lg4 Sw22.2.2.size
 replace Lg17 := Z1 Lg17 Sw22.2.2.size
 replace BE := BE.trans (Sw22.2.2.mono BE.size)
 refine lNp (hK20 _ _ ?_)
 cases hc23 : ((subB x pF) == 0)
 ·
  have qhc23 := subB_f hc23
  refine Z12 rfl ?_
  refine wp_skip ?_
  refine hK14 _ _ ?_
  refine Z30 2 (by kernel_rfl) (fun Lk hLk => ?_)
  simp only [Z7, Z8]
  refine vBn (v := .int .i64 1) (hr := fun W => run_add (by decide) W) ?_
  simp only [Z0, Z6]
  refine vMv (v := .int .i64 1) ?_
  simp only [Z0, Z6]
  refine Z19 (hLk.out _ ?_)
  simp only [Z7, Z8]
  iterate 2 refine Z28 (by rfl) ?_
  refine Z29 (fun w25 Sw25 hbs => ?_)
  clear hbs
  replace Rg3_0 := Z26 Rg3_0 Lg3 Sw25
  replace Tg3 := Z27 Tg3 Lg3 Sw25
  replace Rg4_0 := Z26 Rg4_0 Lg4 Sw25
  replace Tg4 := Z27 Tg4 Lg4 Sw25
  replace Rg17_0 := Z26 Rg17_0 Lg17 Sw25
  replace Tg17 := Z27 Tg17 Lg17 Sw25
  replace Lg3 := Z1 Lg3 Sw25.2.2.size
  replace Lg4 := Z1 Lg4 Sw25.2.2.size
  replace Lg17 := Z1 Lg17 Sw25.2.2.size
  replace BE := BE.trans (Sw25.2.2.mono BE.size)
  refine Z14 (Z15 ?_)
  refine Z22 (Q := fun _ _ _ => True) ?_
  rw [rounds_succ]
  refine Z10 (fun K26 hK26 => ?_)
  refine Z30 1 (by kernel_rfl) (fun Lk hLk => ?_)
  simp only [Z7, Z8]
  refine vBn (v := .bool true) (hr := fun W => run_lss _ _ _ _ W) ?_
  simp only [Z0, Z6]
  refine Z19 (hLk.out _ ?_)
  simp only [Z7, Z8]
  iterate 1 refine Z28 (by rfl) ?_
  refine Z29 (fun w28 Sw28 hbs => ?_)
  clear hbs
  replace Rg3_0 := Z26 Rg3_0 Lg3 Sw28
  replace Tg3 := Z27 Tg3 Lg3 Sw28
  replace Rg4_0 := Z26 Rg4_0 Lg4 Sw28
  replace Tg4 := Z27 Tg4 Lg4 Sw28
  replace Rg17_0 := Z26 Rg17_0 Lg17 Sw28
  replace Tg17 := Z27 Tg17 Lg17 Sw28
  replace Lg3 := Z1 Lg3 Sw28.2.2.size
  replace Lg4 := Z1 Lg4 Sw28.2.2.size
  replace Lg17 := Z1 Lg17 Sw28.2.2.size
  replace BE := BE.trans (Sw28.2.2.mono BE.size)
  refine lNp (hK26 _ _ ?_)
  refine Z10 (fun K29 hK29 => ?_)
  refine Z11 rfl ?_
  refine wp_skip ?_
  refine hK29 _ _ ?_
  refine Z10 (fun K30 hK30 => ?_)
  refine wp_block ?_
  refine Z10 (fun K31 hK31 => ?_)
  refine wp_region_grow 7 [5] (by kernel_rfl) (by kernel_rfl) (by kernel_rfl) (fun Lk hLk => ?_)
  simp only [Z7, Z8]
  refine vLd (cs := fel x) Rg3_0 Lg3 U986 info86 ?_
  simp only [Z0, Z6]
  refine Z25 (v := fe pF) (args := #[]) (by rfl) rfl G9132 (by kernel_rfl) (by kernel_rfl) rfl (fun W hW => prime_c W) ?_
  simp only [Z0, Z6]
  refine Z25 (v := .tuple #[fe (subW x pF), .int .u64 (subB x pF)]) (args := #[fe x, fe pF]) (by rfl) rfl G9131 (by kernel_rfl) (by kernel_rfl) rfl (fun W hW => minus_c hx pF_lt W) ?_
  simp only [Z0, Z6]
  refine vMv (v := .tuple #[fe (subW x pF), .int .u64 (subB x pF)]) ?_
  simp only [Z0, Z6]
  refine Z32 (v := fe (subW x pF)) (by rfl) rfl rfl rfl ?_
  simp only [Z0, Z6]
  refine Z32 (v := .int .u64 (subB x pF)) (by rfl) rfl rfl rfl ?_
  simp only [Z0, Z6]
  refine vAl ?_
  refine Z19 (hLk.out _ ?_)
  simp only [Z7, Z8]
  iterate 6 refine Z28 (by rfl) ?_
  refine wpN_new (t := 86) (cs := ([.int .u64 0, .int .u64 0, .int .u64 0, .int .u64 0]).toArray) (by rfl) (fun W => ?_) (fun g33 Hg33 ng33 => ?_)
  ·
   go_simp
  simp only [Z0, Z6]
  refine Z29 (fun w34 Sw34 hbs => ?_)
  have Bg33 : Blk w34 g33 86 ([.int .u64 0, .int .u64 0, .int .u64 0, .int .u64 0]).toArray := hbs _ (List.mem_cons_self ..)
  clear hbs
  have Ng3_g33 : g3 ≠ g33 := Z4 (Z1 Lg3 Hg33)
  have Ng4_g33 : g4 ≠ g33 := Z4 (Z1 Lg4 Hg33)
  have Ng17_g33 : g17 ≠ g33 := Z4 (Z1 Lg17 Hg33)
  have Gg33 : w.heap.size ≤ g33 := Z3 BE.size Hg33
  replace Rg3_0 := Z26 Rg3_0 Lg3 Sw34
  replace Tg3 := Z27 Tg3 Lg3 Sw34
  replace Rg4_0 := Z26 Rg4_0 Lg4 Sw34
  replace Tg4 := Z27 Tg4 Lg4 Sw34
  replace Rg17_0 := Z26 Rg17_0 Lg17 Sw34
  replace Tg17 := Z27 Tg17 Lg17 Sw34
  replace Lg3 := Z1 Lg3 Sw34.2.2.size
  replace Lg4 := Z1 Lg4 Sw34.2.2.size
  replace Lg17 := Z1 Lg17 Sw34.2.2.size
  replace BE := BE.trans (Sw34.2.2.mono BE.size)
  have Tg33 := blk_there Bg33 (n := 4) (by simp [flen])
  have Rg33_0 := blk_range Bg33 (l := [.int .u64 0, .int .u64 0, .int .u64 0, .int .u64 0]) rfl
  have Lg33 := Bg33.lt
  clear ng33 Bg33
  refine lSt (g := g33) (off := 0) (n := 4) (cs := fel (subW x pF)) Tg33 (by simp [flen]) info86 (fel_one _) (fun w35 Pw35 RR TT => ?_)
  replace Rg3_0 := Pw35.range Rg3_0 (.inl Ng3_g33)
  replace Tg3 := Pw35.other_there Tg3 Ng3_g33
  replace Rg4_0 := Pw35.range Rg4_0 (.inl Ng4_g33)
  replace Tg4 := Pw35.other_there Tg4 Ng4_g33
  replace Rg17_0 := Pw35.range Rg17_0 (.inl Ng17_g33)
  replace Tg17 := Pw35.other_there Tg17 Ng17_g33
  replace Rg33_0 := RR
  clear RR
  replace Tg33 := TT
  replace Lg3 := Pw35.lt Lg3
  replace Lg4 := Pw35.lt Lg4
  replace Lg17 := Pw35.lt Lg17
  replace Lg33 := Pw35.lt Lg33
  replace BE := Pw35.below BE Gg33
  refine lAs (v := .int .u64 (subB x pF)) ?_
  simp only [Z0, Z6]
  refine lNp (hK31 _ _ ?_)
  refine Z10 (fun K36 hK36 => ?_)
  refine Z30 2 (by kernel_rfl) (fun Lk hLk => ?_)
  simp only [Z7, Z8]
  refine vMv (v := .int .u64 (subB x pF)) ?_
  simp only [Z0, Z6]
  refine vBn (v := .bool false) (hr := fun W => (run_eql _ _ _ _ W).trans (by rw [hc23])) ?_
  simp only [Z0, Z6]
  refine Z19 (hLk.out _ ?_)
  simp only [Z7, Z8]
  iterate 2 refine Z28 (by rfl) ?_
  refine Z29 (fun w38 Sw38 hbs => ?_)
  clear hbs
  replace Rg3_0 := Z26 Rg3_0 Lg3 Sw38
  replace Tg3 := Z27 Tg3 Lg3 Sw38
  replace Rg4_0 := Z26 Rg4_0 Lg4 Sw38
  replace Tg4 := Z27 Tg4 Lg4 Sw38
  replace Rg17_0 := Z26 Rg17_0 Lg17 Sw38
  replace Tg17 := Z27 Tg17 Lg17 Sw38
  replace Rg33_0 := Z26 Rg33_0 Lg33 Sw38
  replace Tg33 := Z27 Tg33 Lg33 Sw38
  replace Lg3 := Z1 Lg3 Sw38.2.2.size
  replace Lg4 := Z1 Lg4 Sw38.2.2.size
  replace Lg17 := Z1 Lg17 Sw38.2.2.size
  replace Lg33 := Z1 Lg33 Sw38.2.2.size
  replace BE := BE.trans (Sw38.2.2.mono BE.size)
  refine lNp (hK36 _ _ ?_)
  refine Z12 rfl ?_
  refine wp_skip ?_
  refine hK30 _ _ ?_
  refine Z30 2 (by kernel_rfl) (fun Lk hLk => ?_)
  simp only [Z7, Z8]
  refine vBn (v := .int .i64 2) (hr := fun W => run_add (by decide) W) ?_
  simp only [Z0, Z6]
  refine vMv (v := .int .i64 2) ?_
  simp only [Z0, Z6]
  refine Z19 (hLk.out _ ?_)
  simp only [Z7, Z8]
  iterate 2 refine Z28 (by rfl) ?_
  refine Z29 (fun w40 Sw40 hbs => ?_)
  clear hbs
  replace Rg3_0 := Z26 Rg3_0 Lg3 Sw40
  replace Tg3 := Z27 Tg3 Lg3 Sw40
  replace Rg4_0 := Z26 Rg4_0 Lg4 Sw40
  replace Tg4 := Z27 Tg4 Lg4 Sw40
  replace Rg17_0 := Z26 Rg17_0 Lg17 Sw40
  replace Tg17 := Z27 Tg17 Lg17 Sw40
  replace Rg33_0 := Z26 Rg33_0 Lg33 Sw40
  replace Tg33 := Z27 Tg33 Lg33 Sw40
  replace Lg3 := Z1 Lg3 Sw40.2.2.size
  replace Lg4 := Z1 Lg4 Sw40.2.2.size
  replace Lg17 := Z1 Lg17 Sw40.2.2.size
  replace Lg33 := Z1 Lg33 Sw40.2.2.size
  replace BE := BE.trans (Sw40.2.2.mono BE.size)
  refine Z14 (Z15 ?_)
  refine Z22 (Q := fun _ _ _ => True) ?_
  rw [rounds_succ]
  refine Z10 (fun K41 hK41 => ?_)
  refine Z30 1 (by kernel_rfl) (fun Lk hLk => ?_)
  simp only [Z7, Z8]
  refine vBn (v := .bool false) (hr := fun W => run_lss _ _ _ _ W) ?_
  simp only [Z0, Z6]
  refine Z19 (hLk.out _ ?_)
  simp only [Z7, Z8]
  iterate 1 refine Z28 (by rfl) ?_
  refine Z29 (fun w43 Sw43 hbs => ?_)
  clear hbs
  replace Rg3_0 := Z26 Rg3_0 Lg3 Sw43
  replace Tg3 := Z27 Tg3 Lg3 Sw43
  replace Rg4_0 := Z26 Rg4_0 Lg4 Sw43
  replace Tg4 := Z27 Tg4 Lg4 Sw43
  replace Rg17_0 := Z26 Rg17_0 Lg17 Sw43
  replace Tg17 := Z27 Tg17 Lg17 Sw43
  replace Rg33_0 := Z26 Rg33_0 Lg33 Sw43
  replace Tg33 := Z27 Tg33 Lg33 Sw43
  replace Lg3 := Z1 Lg3 Sw43.2.2.size
  replace Lg4 := Z1 Lg4 Sw43.2.2.size
  replace Lg17 := Z1 Lg17 Sw43.2.2.size
  replace Lg33 := Z1 Lg33 Sw43.2.2.size
  replace BE := BE.trans (Sw43.2.2.mono BE.size)
  refine lNp (hK41 _ _ ?_)
  refine Z10 (fun K44 hK44 => ?_)
  refine Z12 rfl ?_
  refine wp_exit ?_
  refine hK6 _ _ ?_
  refine Z10 (fun K45 hK45 => ?_)
  refine Z30 1 (by kernel_rfl) (fun Lk hLk => ?_)
  simp only [Z7, Z8]
  refine vLd (cs := fel x) Rg3_0 Lg3 U986 info86 ?_
  simp only [Z0, Z6]
  refine Z19 (hLk.out _ ?_)
  simp only [Z7, Z8]
  iterate 1 refine Z28 (by rfl) ?_
  refine Z29 (fun w47 Sw47 hbs => ?_)
  clear hbs
  replace Rg3_0 := Z26 Rg3_0 Lg3 Sw47
  replace Tg3 := Z27 Tg3 Lg3 Sw47
  replace Rg4_0 := Z26 Rg4_0 Lg4 Sw47
  replace Tg4 := Z27 Tg4 Lg4 Sw47
  replace Rg17_0 := Z26 Rg17_0 Lg17 Sw47
  replace Tg17 := Z27 Tg17 Lg17 Sw47
  replace Rg33_0 := Z26 Rg33_0 Lg33 Sw47
  replace Tg33 := Z27 Tg33 Lg33 Sw47
  replace Lg3 := Z1 Lg3 Sw47.2.2.size
  replace Lg4 := Z1 Lg4 Sw47.2.2.size
  replace Lg17 := Z1 Lg17 Sw47.2.2.size
  replace Lg33 := Z1 Lg33 Sw47.2.2.size
  replace BE := BE.trans (Sw47.2.2.mono BE.size)
  refine lSt (g := g4) (off := 0) (n := 4) (cs := fel x) Tg4 (by simp [flen]) info86 (fel_one _) (fun w48 Pw48 RR TT => ?_)
  replace Rg3_0 := Pw48.range Rg3_0 (.inl Ng3_g4)
  replace Tg3 := Pw48.other_there Tg3 Ng3_g4
  replace Rg17_0 := Pw48.range Rg17_0 (.inl (Ne.symm Ng4_g17))
  replace Tg17 := Pw48.other_there Tg17 (Ne.symm Ng4_g17)
  replace Rg33_0 := Pw48.range Rg33_0 (.inl (Ne.symm Ng4_g33))
  replace Tg33 := Pw48.other_there Tg33 (Ne.symm Ng4_g33)
  replace Rg4_0 := RR
  clear RR
  replace Tg4 := TT
  replace Lg3 := Pw48.lt Lg3
  replace Lg4 := Pw48.lt Lg4
  replace Lg17 := Pw48.lt Lg17
  replace Lg33 := Pw48.lt Lg33
  replace BE := Pw48.below BE Gg4
  refine lNp (hK45 _ _ ?_)
  refine wp_ret ?_
  repeat (first | with_reducible refine then_ret ?_ | with_reducible refine inblock_ret ?_)
  refine bodyPost_ret (v := fe x) (res1 rfl (.cell (by rfl) (run_loadVar_mid _ _ _ _ (fel x) _ Rg4_0 U986 rfl info86))) rfl ?_
  exact ⟨by rw [least0 qhc23], BE⟩
 have qhc23 := subB_t hc23
 refine Z11 rfl ?_
 refine Z30 1 (by kernel_rfl) (fun Lk hLk => ?_)
 simp only [Z7, Z8]
 refine vLd (cs := fel (subW x pF)) Rg17_0 Lg17 U986 info86 ?_
 simp only [Z0, Z6]
 refine Z19 (hLk.out _ ?_)
 simp only [Z7, Z8]
 iterate 1 refine Z28 (by rfl) ?_
 refine Z29 (fun w50 Sw50 hbs => ?_)
 clear hbs
 replace Rg3_0 := Z26 Rg3_0 Lg3 Sw50
 replace Tg3 := Z27 Tg3 Lg3 Sw50
 replace Rg4_0 := Z26 Rg4_0 Lg4 Sw50
 replace Tg4 := Z27 Tg4 Lg4 Sw50
 replace Rg17_0 := Z26 Rg17_0 Lg17 Sw50
 replace Tg17 := Z27 Tg17 Lg17 Sw50
 replace Lg3 := Z1 Lg3 Sw50.2.2.size
 replace Lg4 := Z1 Lg4 Sw50.2.2.size
 replace Lg17 := Z1 Lg17 Sw50.2.2.size
 replace BE := BE.trans (Sw50.2.2.mono BE.size)
 refine lSt (g := g3) (off := 0) (n := 4) (cs := fel (subW x pF)) Tg3 (by simp [flen]) info86 (fel_one _) (fun w51 Pw51 RR TT => ?_)
 replace Rg4_0 := Pw51.range Rg4_0 (.inl (Ne.symm Ng3_g4))
 replace Tg4 := Pw51.other_there Tg4 (Ne.symm Ng3_g4)
 replace Rg17_0 := Pw51.range Rg17_0 (.inl (Ne.symm Ng3_g17))
 replace Tg17 := Pw51.other_there Tg17 (Ne.symm Ng3_g17)
 replace Rg3_0 := RR
 clear RR
 replace Tg3 := TT
 replace Lg3 := Pw51.lt Lg3
 replace Lg4 := Pw51.lt Lg4
 replace Lg17 := Pw51.lt Lg17
 replace BE := Pw51.below BE Gg3
 refine lNp (hK14 _ _ ?_)
 refine Z30 2 (by kernel_rfl) (fun Lk hLk => ?_)
 simp only [Z7, Z8]
 refine vBn (v := .int .i64 1) (hr := fun W => run_add (by decide) W) ?_
 simp only [Z0, Z6]
 refine vMv (v := .int .i64 1) ?_
 simp only [Z0, Z6]
 refine Z19 (hLk.out _ ?_)
 simp only [Z7, Z8]
 iterate 2 refine Z28 (by rfl) ?_
 refine Z29 (fun w53 Sw53 hbs => ?_)
 clear hbs
 replace Rg3_0 := Z26 Rg3_0 Lg3 Sw53
 replace Tg3 := Z27 Tg3 Lg3 Sw53
 replace Rg4_0 := Z26 Rg4_0 Lg4 Sw53
 replace Tg4 := Z27 Tg4 Lg4 Sw53
 replace Rg17_0 := Z26 Rg17_0 Lg17 Sw53
 replace Tg17 := Z27 Tg17 Lg17 Sw53
 replace Lg3 := Z1 Lg3 Sw53.2.2.size
 replace Lg4 := Z1 Lg4 Sw53.2.2.size
 replace Lg17 := Z1 Lg17 Sw53.2.2.size
 replace BE := BE.trans (Sw53.2.2.mono BE.size)
 refine Z14 (Z15 ?_)
 refine Z22 (Q := fun _ _ _ => True) ?_
 rw [rounds_succ]
 refine Z10 (fun K54 hK54 => ?_)
 refine Z30 1 (by kernel_rfl) (fun Lk hLk => ?_)
 simp only [Z7, Z8]
 refine vBn (v := .bool true) (hr := fun W => run_lss _ _ _ _ W) ?_
 simp only [Z0, Z6]
 refine Z19 (hLk.out _ ?_)
 simp only [Z7, Z8]
 iterate 1 refine Z28 (by rfl) ?_
 refine Z29 (fun w56 Sw56 hbs => ?_)
 clear hbs
 replace Rg3_0 := Z26 Rg3_0 Lg3 Sw56
 replace Tg3 := Z27 Tg3 Lg3 Sw56
 replace Rg4_0 := Z26 Rg4_0 Lg4 Sw56
 replace Tg4 := Z27 Tg4 Lg4 Sw56
 replace Rg17_0 := Z26 Rg17_0 Lg17 Sw56
 replace Tg17 := Z27 Tg17 Lg17 Sw56
 replace Lg3 := Z1 Lg3 Sw56.2.2.size
 replace Lg4 := Z1 Lg4 Sw56.2.2.size
 replace Lg17 := Z1 Lg17 Sw56.2.2.size
 replace BE := BE.trans (Sw56.2.2.mono BE.size)
 refine lNp (hK54 _ _ ?_)
 refine Z10 (fun K57 hK57 => ?_)
 refine Z11 rfl ?_
 refine wp_skip ?_
 refine hK57 _ _ ?_
 refine Z10 (fun K58 hK58 => ?_)
 refine wp_block ?_
 refine Z10 (fun K59 hK59 => ?_)
 refine wp_region_grow 7 [5] (by kernel_rfl) (by kernel_rfl) (by kernel_rfl) (fun Lk hLk => ?_)
 simp only [Z7, Z8]
 refine vLd (cs := fel (subW x pF)) Rg3_0 Lg3 U986 info86 ?_
 simp only [Z0, Z6]
 refine Z25 (v := fe pF) (args := #[]) (by rfl) rfl G9132 (by kernel_rfl) (by kernel_rfl) rfl (fun W hW => prime_c W) ?_
 simp only [Z0, Z6]
 refine Z25 (v := .tuple #[fe (subW (subW x pF) pF), .int .u64 (subB (subW x pF) pF)]) (args := #[fe (subW x pF), fe pF]) (by rfl) rfl G9131 (by kernel_rfl) (by kernel_rfl) rfl (fun W hW => minus_c (subW_lt ..) pF_lt W) ?_
 simp only [Z0, Z6]
 refine vMv (v := .tuple #[fe (subW (subW x pF) pF), .int .u64 (subB (subW x pF) pF)]) ?_
 simp only [Z0, Z6]
 refine Z32 (v := fe (subW (subW x pF) pF)) (by rfl) rfl rfl rfl ?_
 simp only [Z0, Z6]
 refine Z32 (v := .int .u64 (subB (subW x pF) pF)) (by rfl) rfl rfl rfl ?_
 simp only [Z0, Z6]
 refine vAl ?_
 refine Z19 (hLk.out _ ?_)
 simp only [Z7, Z8]
 iterate 6 refine Z28 (by rfl) ?_
 refine wpN_new (t := 86) (cs := ([.int .u64 0, .int .u64 0, .int .u64 0, .int .u64 0]).toArray) (by rfl) (fun W => ?_) (fun g61 Hg61 ng61 => ?_)
 ·
  go_simp
 simp only [Z0, Z6]
 refine Z29 (fun w62 Sw62 hbs => ?_)
 have Bg61 : Blk w62 g61 86 ([.int .u64 0, .int .u64 0, .int .u64 0, .int .u64 0]).toArray := hbs _ (List.mem_cons_self ..)
 clear hbs
 have Ng3_g61 : g3 ≠ g61 := Z4 (Z1 Lg3 Hg61)
 have Ng4_g61 : g4 ≠ g61 := Z4 (Z1 Lg4 Hg61)
 have Ng17_g61 : g17 ≠ g61 := Z4 (Z1 Lg17 Hg61)
 have Gg61 : w.heap.size ≤ g61 := Z3 BE.size Hg61
 replace Rg3_0 := Z26 Rg3_0 Lg3 Sw62
 replace Tg3 := Z27 Tg3 Lg3 Sw62
 replace Rg4_0 := Z26 Rg4_0 Lg4 Sw62
 replace Tg4 := Z27 Tg4 Lg4 Sw62
 replace Rg17_0 := Z26 Rg17_0 Lg17 Sw62
 replace Tg17 := Z27 Tg17 Lg17 Sw62
 replace Lg3 := Z1 Lg3 Sw62.2.2.size
 replace Lg4 := Z1 Lg4 Sw62.2.2.size
 replace Lg17 := Z1 Lg17 Sw62.2.2.size
 replace BE := BE.trans (Sw62.2.2.mono BE.size)
 have Tg61 := blk_there Bg61 (n := 4) (by simp [flen])
 have Rg61_0 := blk_range Bg61 (l := [.int .u64 0, .int .u64 0, .int .u64 0, .int .u64 0]) rfl
 have Lg61 := Bg61.lt
 clear ng61 Bg61
 refine lSt (g := g61) (off := 0) (n := 4) (cs := fel (subW (subW x pF) pF)) Tg61 (by simp [flen]) info86 (fel_one _) (fun w63 Pw63 RR TT => ?_)
 replace Rg3_0 := Pw63.range Rg3_0 (.inl Ng3_g61)
 replace Tg3 := Pw63.other_there Tg3 Ng3_g61
 replace Rg4_0 := Pw63.range Rg4_0 (.inl Ng4_g61)
 replace Tg4 := Pw63.other_there Tg4 Ng4_g61
 replace Rg17_0 := Pw63.range Rg17_0 (.inl Ng17_g61)
 replace Tg17 := Pw63.other_there Tg17 Ng17_g61
 replace Rg61_0 := RR
 clear RR
 replace Tg61 := TT
 replace Lg3 := Pw63.lt Lg3
 replace Lg4 := Pw63.lt Lg4
 replace Lg17 := Pw63.lt Lg17
 replace Lg61 := Pw63.lt Lg61
 replace BE := Pw63.below BE Gg61
 refine lAs (v := .int .u64 (subB (subW x pF) pF)) ?_
 simp only [Z0, Z6]
 refine lNp (hK59 _ _ ?_)
 refine Z10 (fun K64 hK64 => ?_)
 refine Z30 2 (by kernel_rfl) (fun Lk hLk => ?_)
 simp only [Z7, Z8]
 refine vMv (v := .int .u64 (subB (subW x pF) pF)) ?_
 simp only [Z0, Z6]
 refine vBn (v := .bool ((subB (subW x pF) pF) == 0)) (hr := fun W => run_eql _ _ _ _ W) ?_
 simp only [Z0, Z6]
 refine Z19 (hLk.out _ ?_)
 simp only [Z7, Z8]
 iterate 2 refine Z28 (by rfl) ?_
 refine Z29 (fun w66 Sw66 hbs => ?_)
 clear hbs
 replace Rg3_0 := Z26 Rg3_0 Lg3 Sw66
 replace Tg3 := Z27 Tg3 Lg3 Sw66
 replace Rg4_0 := Z26 Rg4_0 Lg4 Sw66
 replace Tg4 := Z27 Tg4 Lg4 Sw66
 replace Rg17_0 := Z26 Rg17_0 Lg17 Sw66
 replace Tg17 := Z27 Tg17 Lg17 Sw66
 replace Rg61_0 := Z26 Rg61_0 Lg61 Sw66
 replace Tg61 := Z27 Tg61 Lg61 Sw66
 replace Lg3 := Z1 Lg3 Sw66.2.2.size
 replace Lg4 := Z1 Lg4 Sw66.2.2.size
 replace Lg17 := Z1 Lg17 Sw66.2.2.size
 replace Lg61 := Z1 Lg61 Sw66.2.2.size
 replace BE := BE.trans (Sw66.2.2.mono BE.size)
 refine lNp (hK64 _ _ ?_)
 cases hc67 : ((subB (subW x pF) pF) == 0)
 ·
  have qhc67 := subB_f hc67
  refine Z12 rfl ?_
  refine wp_skip ?_
  refine hK58 _ _ ?_
  refine Z30 2 (by kernel_rfl) (fun Lk hLk => ?_)
  simp only [Z7, Z8]
  refine vBn (v := .int .i64 2) (hr := fun W => run_add (by decide) W) ?_
  simp only [Z0, Z6]
  refine vMv (v := .int .i64 2) ?_
  simp only [Z0, Z6]
  refine Z19 (hLk.out _ ?_)
  simp only [Z7, Z8]
  iterate 2 refine Z28 (by rfl) ?_
  refine Z29 (fun w69 Sw69 hbs => ?_)
  clear hbs
  replace Rg3_0 := Z26 Rg3_0 Lg3 Sw69
  replace Tg3 := Z27 Tg3 Lg3 Sw69
  replace Rg4_0 := Z26 Rg4_0 Lg4 Sw69
  replace Tg4 := Z27 Tg4 Lg4 Sw69
  replace Rg17_0 := Z26 Rg17_0 Lg17 Sw69
  replace Tg17 := Z27 Tg17 Lg17 Sw69
  replace Rg61_0 := Z26 Rg61_0 Lg61 Sw69
  replace Tg61 := Z27 Tg61 Lg61 Sw69
  replace Lg3 := Z1 Lg3 Sw69.2.2.size
  replace Lg4 := Z1 Lg4 Sw69.2.2.size
  replace Lg17 := Z1 Lg17 Sw69.2.2.size
  replace Lg61 := Z1 Lg61 Sw69.2.2.size
  replace BE := BE.trans (Sw69.2.2.mono BE.size)
  refine Z14 (Z15 ?_)
  refine Z22 (Q := fun _ _ _ => True) ?_
  rw [rounds_succ]
  refine Z10 (fun K70 hK70 => ?_)
  refine Z30 1 (by kernel_rfl) (fun Lk hLk => ?_)
  simp only [Z7, Z8]
  refine vBn (v := .bool false) (hr := fun W => run_lss _ _ _ _ W) ?_
  simp only [Z0, Z6]
  refine Z19 (hLk.out _ ?_)
  simp only [Z7, Z8]
  iterate 1 refine Z28 (by rfl) ?_
  refine Z29 (fun w72 Sw72 hbs => ?_)
  clear hbs
  replace Rg3_0 := Z26 Rg3_0 Lg3 Sw72
  replace Tg3 := Z27 Tg3 Lg3 Sw72
  replace Rg4_0 := Z26 Rg4_0 Lg4 Sw72
  replace Tg4 := Z27 Tg4 Lg4 Sw72
  replace Rg17_0 := Z26 Rg17_0 Lg17 Sw72
  replace Tg17 := Z27 Tg17 Lg17 Sw72
  replace Rg61_0 := Z26 Rg61_0 Lg61 Sw72
  replace Tg61 := Z27 Tg61 Lg61 Sw72
  replace Lg3 := Z1 Lg3 Sw72.2.2.size
  replace Lg4 := Z1 Lg4 Sw72.2.2.size
  replace Lg17 := Z1 Lg17 Sw72.2.2.size
  replace Lg61 := Z1 Lg61 Sw72.2.2.size
  replace BE := BE.trans (Sw72.2.2.mono BE.size)
  refine lNp (hK70 _ _ ?_)
  refine Z10 (fun K73 hK73 => ?_)
  refine Z12 rfl ?_
  refine wp_exit ?_
  refine hK6 _ _ ?_
  refine Z10 (fun K74 hK74 => ?_)
  refine Z30 1 (by kernel_rfl) (fun Lk hLk => ?_)
  simp only [Z7, Z8]
  refine vLd (cs := fel (subW x pF)) Rg3_0 Lg3 U986 info86 ?_
  simp only [Z0, Z6]
  refine Z19 (hLk.out _ ?_)
  simp only [Z7, Z8]
  iterate 1 refine Z28 (by rfl) ?_
  refine Z29 (fun w76 Sw76 hbs => ?_)
  clear hbs
  replace Rg3_0 := Z26 Rg3_0 Lg3 Sw76
  replace Tg3 := Z27 Tg3 Lg3 Sw76
  replace Rg4_0 := Z26 Rg4_0 Lg4 Sw76
  replace Tg4 := Z27 Tg4 Lg4 Sw76
  replace Rg17_0 := Z26 Rg17_0 Lg17 Sw76
  replace Tg17 := Z27 Tg17 Lg17 Sw76
  replace Rg61_0 := Z26 Rg61_0 Lg61 Sw76
  replace Tg61 := Z27 Tg61 Lg61 Sw76
  replace Lg3 := Z1 Lg3 Sw76.2.2.size
  replace Lg4 := Z1 Lg4 Sw76.2.2.size
  replace Lg17 := Z1 Lg17 Sw76.2.2.size
  replace Lg61 := Z1 Lg61 Sw76.2.2.size
  replace BE := BE.trans (Sw76.2.2.mono BE.size)
  refine lSt (g := g4) (off := 0) (n := 4) (cs := fel (subW x pF)) Tg4 (by simp [flen]) info86 (fel_one _) (fun w77 Pw77 RR TT => ?_)
  replace Rg3_0 := Pw77.range Rg3_0 (.inl Ng3_g4)
  replace Tg3 := Pw77.other_there Tg3 Ng3_g4
  replace Rg17_0 := Pw77.range Rg17_0 (.inl (Ne.symm Ng4_g17))
  replace Tg17 := Pw77.other_there Tg17 (Ne.symm Ng4_g17)
  replace Rg61_0 := Pw77.range Rg61_0 (.inl (Ne.symm Ng4_g61))
  replace Tg61 := Pw77.other_there Tg61 (Ne.symm Ng4_g61)
  replace Rg4_0 := RR
  clear RR
  replace Tg4 := TT
  replace Lg3 := Pw77.lt Lg3
  replace Lg4 := Pw77.lt Lg4
  replace Lg17 := Pw77.lt Lg17
  replace Lg61 := Pw77.lt Lg61
  replace BE := Pw77.below BE Gg4
  refine lNp (hK74 _ _ ?_)
  refine wp_ret ?_
  repeat (first | with_reducible refine then_ret ?_ | with_reducible refine inblock_ret ?_)
  refine bodyPost_ret (v := fe (subW x pF)) (res1 rfl (.cell (by rfl) (run_loadVar_mid _ _ _ _ (fel (subW x pF)) _ Rg4_0 U986 rfl info86))) rfl ?_
  exact ⟨by rw [(least1 hx qhc23).trans (least0 qhc67)], BE⟩
 have qhc67 := subB_t hc67
 refine Z11 rfl ?_
 refine Z30 1 (by kernel_rfl) (fun Lk hLk => ?_)
 simp only [Z7, Z8]
 refine vLd (cs := fel (subW (subW x pF) pF)) Rg61_0 Lg61 U986 info86 ?_
 simp only [Z0, Z6]
 refine Z19 (hLk.out _ ?_)
 simp only [Z7, Z8]
 iterate 1 refine Z28 (by rfl) ?_
 refine Z29 (fun w79 Sw79 hbs => ?_)
 clear hbs
 replace Rg3_0 := Z26 Rg3_0 Lg3 Sw79
 replace Tg3 := Z27 Tg3 Lg3 Sw79
 replace Rg4_0 := Z26 Rg4_0 Lg4 Sw79
 replace Tg4 := Z27 Tg4 Lg4 Sw79
 replace Rg17_0 := Z26 Rg17_0 Lg17 Sw79
 replace Tg17 := Z27 Tg17 Lg17 Sw79
 replace Rg61_0 := Z26 Rg61_0 Lg61 Sw79
 replace Tg61 := Z27 Tg61 Lg61 Sw79
 replace Lg3 := Z1 Lg3 Sw79.2.2.size
 replace Lg4 := Z1 Lg4 Sw79.2.2.size
 replace Lg17 := Z1 Lg17 Sw79.2.2.size
 replace Lg61 := Z1 Lg61 Sw79.2.2.size
 replace BE := BE.trans (Sw79.2.2.mono BE.size)
 refine lSt (g := g3) (off := 0) (n := 4) (cs := fel (subW (subW x pF) pF)) Tg3 (by simp [flen]) info86 (fel_one _) (fun w80 Pw80 RR TT => ?_)
 replace Rg4_0 := Pw80.range Rg4_0 (.inl (Ne.symm Ng3_g4))
 replace Tg4 := Pw80.other_there Tg4 (Ne.symm Ng3_g4)
 replace Rg17_0 := Pw80.range Rg17_0 (.inl (Ne.symm Ng3_g17))
 replace Tg17 := Pw80.other_there Tg17 (Ne.symm Ng3_g17)
 replace Rg61_0 := Pw80.range Rg61_0 (.inl (Ne.symm Ng3_g61))
 replace Tg61 := Pw80.other_there Tg61 (Ne.symm Ng3_g61)
 replace Rg3_0 := RR
 clear RR
 replace Tg3 := TT
 replace Lg3 := Pw80.lt Lg3
 replace Lg4 := Pw80.lt Lg4
 replace Lg17 := Pw80.lt Lg17
 replace Lg61 := Pw80.lt Lg61
 replace BE := Pw80.below BE Gg3
 refine lNp (hK58 _ _ ?_)
 refine Z30 2 (by kernel_rfl) (fun Lk hLk => ?_)
 simp only [Z7, Z8]
 refine vBn (v := .int .i64 2) (hr := fun W => run_add (by decide) W) ?_
 simp only [Z0, Z6]
 refine vMv (v := .int .i64 2) ?_
 simp only [Z0, Z6]
 refine Z19 (hLk.out _ ?_)
 simp only [Z7, Z8]
 iterate 2 refine Z28 (by rfl) ?_
 refine Z29 (fun w82 Sw82 hbs => ?_)
 clear hbs
 replace Rg3_0 := Z26 Rg3_0 Lg3 Sw82
 replace Tg3 := Z27 Tg3 Lg3 Sw82
 replace Rg4_0 := Z26 Rg4_0 Lg4 Sw82
 replace Tg4 := Z27 Tg4 Lg4 Sw82
 replace Rg17_0 := Z26 Rg17_0 Lg17 Sw82
 replace Tg17 := Z27 Tg17 Lg17 Sw82
 replace Rg61_0 := Z26 Rg61_0 Lg61 Sw82
 replace Tg61 := Z27 Tg61 Lg61 Sw82
 replace Lg3 := Z1 Lg3 Sw82.2.2.size
 replace Lg4 := Z1 Lg4 Sw82.2.2.size
 replace Lg17 := Z1 Lg17 Sw82.2.2.size
 replace Lg61 := Z1 Lg61 Sw82.2.2.size
 replace BE := BE.trans (Sw82.2.2.mono BE.size)
 refine Z14 (Z15 ?_)
 refine Z22 (Q := fun _ _ _ => True) ?_
 rw [rounds_succ]
 refine Z10 (fun K83 hK83 => ?_)
 refine Z30 1 (by kernel_rfl) (fun Lk hLk => ?_)
 simp only [Z7, Z8]
 refine vBn (v := .bool false) (hr := fun W => run_lss _ _ _ _ W) ?_
 simp only [Z0, Z6]
 refine Z19 (hLk.out _ ?_)
 simp only [Z7, Z8]
 iterate 1 refine Z28 (by rfl) ?_
 refine Z29 (fun w85 Sw85 hbs => ?_)
 clear hbs
 replace Rg3_0 := Z26 Rg3_0 Lg3 Sw85
 replace Tg3 := Z27 Tg3 Lg3 Sw85
 replace Rg4_0 := Z26 Rg4_0 Lg4 Sw85
 replace Tg4 := Z27 Tg4 Lg4 Sw85
 replace Rg17_0 := Z26 Rg17_0 Lg17 Sw85
 replace Tg17 := Z27 Tg17 Lg17 Sw85
 replace Rg61_0 := Z26 Rg61_0 Lg61 Sw85
 replace Tg61 := Z27 Tg61 Lg61 Sw85
 replace Lg3 := Z1 Lg3 Sw85.2.2.size
 replace Lg4 := Z1 Lg4 Sw85.2.2.size
 replace Lg17 := Z1 Lg17 Sw85.2.2.size
 replace Lg61 := Z1 Lg61 Sw85.2.2.size
 replace BE := BE.trans (Sw85.2.2.mono BE.size)
 refine lNp (hK83 _ _ ?_)
 refine Z10 (fun K86 hK86 => ?_)
 refine Z12 rfl ?_
 refine wp_exit ?_
 refine hK6 _ _ ?_
 refine Z10 (fun K87 hK87 => ?_)
 refine Z30 1 (by kernel_rfl) (fun Lk hLk => ?_)
 simp only [Z7, Z8]
 refine vLd (cs := fel (subW (subW x pF) pF)) Rg3_0 Lg3 U986 info86 ?_
 simp only [Z0, Z6]
 refine Z19 (hLk.out _ ?_)
 simp only [Z7, Z8]
 iterate 1 refine Z28 (by rfl) ?_
 refine Z29 (fun w89 Sw89 hbs => ?_)
 clear hbs
 replace Rg3_0 := Z26 Rg3_0 Lg3 Sw89
 replace Tg3 := Z27 Tg3 Lg3 Sw89
 replace Rg4_0 := Z26 Rg4_0 Lg4 Sw89
 replace Tg4 := Z27 Tg4 Lg4 Sw89
 replace Rg17_0 := Z26 Rg17_0 Lg17 Sw89
 replace Tg17 := Z27 Tg17 Lg17 Sw89
 replace Rg61_0 := Z26 Rg61_0 Lg61 Sw89
 replace Tg61 := Z27 Tg61 Lg61 Sw89
 replace Lg3 := Z1 Lg3 Sw89.2.2.size
 replace Lg4 := Z1 Lg4 Sw89.2.2.size
 replace Lg17 := Z1 Lg17 Sw89.2.2.size
 replace Lg61 := Z1 Lg61 Sw89.2.2.size
 replace BE := BE.trans (Sw89.2.2.mono BE.size)
 refine lSt (g := g4) (off := 0) (n := 4) (cs := fel (subW (subW x pF) pF)) Tg4 (by simp [flen]) info86 (fel_one _) (fun w90 Pw90 RR TT => ?_)
 replace Rg3_0 := Pw90.range Rg3_0 (.inl Ng3_g4)
 replace Tg3 := Pw90.other_there Tg3 Ng3_g4
 replace Rg17_0 := Pw90.range Rg17_0 (.inl (Ne.symm Ng4_g17))
 replace Tg17 := Pw90.other_there Tg17 (Ne.symm Ng4_g17)
 replace Rg61_0 := Pw90.range Rg61_0 (.inl (Ne.symm Ng4_g61))
 replace Tg61 := Pw90.other_there Tg61 (Ne.symm Ng4_g61)
 replace Rg4_0 := RR
 clear RR
 replace Tg4 := TT
 replace Lg3 := Pw90.lt Lg3
 replace Lg4 := Pw90.lt Lg4
 replace Lg17 := Pw90.lt Lg17
 replace Lg61 := Pw90.lt Lg61
 replace BE := Pw90.below BE Gg4
 refine lNp (hK87 _ _ ?_)
 refine wp_ret ?_
 repeat (first | with_reducible refine then_ret ?_ | with_reducible refine inblock_ret ?_)
 refine bodyPost_ret (v := fe (subW (subW x pF) pF)) (res1 rfl (.cell (by rfl) (run_loadVar_mid _ _ _ _ (fel (subW (subW x pF) pF)) _ Rg4_0 U986 rfl info86))) rfl ?_
 exact ⟨by rw [least2 hx qhc23 qhc67], BE⟩
end Go.Proofs.Ya

namespace Go.Proofs.Ya
open Go Go.RowKit Go.Shelf Go.Proofs.Num
open Tryd renaming underlying129 → U9129, underlying40 → U940, underlying86 → U986
open Go.Proofs.Num  renaming putT → Z0
open Nat renaming lt_of_lt_of_le → Z1, zero_add → Z2, le_trans → Z3, ne_of_lt → Z4, mod_eq_of_lt → Z5
open List renaming set → Z6, take → Z7, drop → Z8
open Go renaming undef → Z9, wp_seq_k → Z10, wp_cond_true → Z11, wp_cond_false → Z12
open Go.Proofs.Num renaming wpL_nil → Z14, no_panic → Z15, wpV_nil → Z19, wpV_callf → Z25, range_sees → Z26, there_sees → Z27, wpN_skip → Z28, wpN_nil → Z29, wp_region_plain → Z30, wpV_extract → Z32, wpV_load1 → Z34
theorem info40 : (Tryd.prog.info? 40).map (·.size) = some 1 := by kernel_rfl
set_option maxHeartbeats 1000000 in
theorem wide_c {x : Nat} (hx : x < 2 ^ 256) {y : Nat} (hy : y < 2 ^ 256) (w : World) :
  Calls Tryd.prog 133 #[fe x, fe y] w fun e w' => e = .returned (.tuple #[fe (mulLo x y), fe (mulHi x y)]) ∧ Below w.heap.size w w' := by
 go_enter Tryd.func133, Tryd.ntmps133
 have BE := Below.refl w.heap.size w
 refine Z10 (fun K1 hK1 => ?_)
 refine Z30 4 (by kernel_rfl) (fun Lk hLk => ?_)
 simp only [Z7, Z8]
 refine vAl ?_
 refine vAl ?_
 refine vAl ?_
 refine vAl ?_
 refine Z19 (hLk.out _ ?_)
 simp only [Z7, Z8]
 refine wpN_new (t := 86) (cs := (fel x).toArray) (by rfl) (fun W => ?_) (fun g3 Hg3 ng3 => ?_)
 ·
  (first | rfl | go_simp)
 refine wpN_new (t := 86) (cs := (fel y).toArray) (by rfl) (fun W => ?_) (fun g4 Hg4 ng4 => ?_)
 ·
  (first | rfl | go_simp)
 refine wpN_new (t := 86) (cs := ([.int .u64 0, .int .u64 0, .int .u64 0, .int .u64 0]).toArray) (by rfl) (fun W => ?_) (fun g5 Hg5 ng5 => ?_)
 ·
  go_simp
 refine wpN_new (t := 86) (cs := ([.int .u64 0, .int .u64 0, .int .u64 0, .int .u64 0]).toArray) (by rfl) (fun W => ?_) (fun g6 Hg6 ng6 => ?_)
 ·
  go_simp
 simp only [Z0, Z6]
 refine Z29 (fun w7 Sw7 hbs => ?_)
 have Bg3 : Blk w7 g3 86 (fel x).toArray := hbs _ (List.mem_cons_of_mem _ (List.mem_cons_of_mem _ (List.mem_cons_of_mem _ (List.mem_cons_self ..))))
 have Bg4 : Blk w7 g4 86 (fel y).toArray := hbs _ (List.mem_cons_of_mem _ (List.mem_cons_of_mem _ (List.mem_cons_self ..)))
 have Bg5 : Blk w7 g5 86 ([.int .u64 0, .int .u64 0, .int .u64 0, .int .u64 0]).toArray := hbs _ (List.mem_cons_of_mem _ (List.mem_cons_self ..))
 have Bg6 : Blk w7 g6 86 ([.int .u64 0, .int .u64 0, .int .u64 0, .int .u64 0]).toArray := hbs _ (List.mem_cons_self ..)
 clear hbs
 have Gg3 : w.heap.size ≤ g3 := Z3 BE.size Hg3
 have Ng3_g4 : g3 ≠ g4 := ng4 (g3, _, _) (List.mem_cons_self ..)
 have Gg4 : w.heap.size ≤ g4 := Z3 BE.size Hg4
 have Ng3_g5 : g3 ≠ g5 := ng5 (g3, _, _) (List.mem_cons_of_mem _ (List.mem_cons_self ..))
 have Ng4_g5 : g4 ≠ g5 := ng5 (g4, _, _) (List.mem_cons_self ..)
 have Gg5 : w.heap.size ≤ g5 := Z3 BE.size Hg5
 have Ng3_g6 : g3 ≠ g6 := ng6 (g3, _, _) (List.mem_cons_of_mem _ (List.mem_cons_of_mem _ (List.mem_cons_self ..)))
 have Ng4_g6 : g4 ≠ g6 := ng6 (g4, _, _) (List.mem_cons_of_mem _ (List.mem_cons_self ..))
 have Ng5_g6 : g5 ≠ g6 := ng6 (g5, _, _) (List.mem_cons_self ..)
 have Gg6 : w.heap.size ≤ g6 := Z3 BE.size Hg6
 replace BE := BE.trans (Sw7.2.2.mono BE.size)
 have Tg3 := blk_there Bg3 (n := 4) (by simp [flen])
 have Rg3_0 := blk_range Bg3 (l := fel x) rfl
 have Lg3 := Bg3.lt
 have Tg4 := blk_there Bg4 (n := 4) (by simp [flen])
 have Rg4_0 := blk_range Bg4 (l := fel y) rfl
 have Lg4 := Bg4.lt
 have Tg5 := blk_there Bg5 (n := 4) (by simp [flen])
 have Rg5_0 := blk_range Bg5 (l := [.int .u64 0, .int .u64 0, .int .u64 0, .int .u64 0]) rfl
 have Lg5 := Bg5.lt
 have Tg6 := blk_there Bg6 (n := 4) (by simp [flen])
 have Rg6_0 := blk_range Bg6 (l := [.int .u64 0, .int .u64 0, .int .u64 0, .int .u64 0]) rfl
 have Lg6 := Bg6.lt
 clear ng3 ng4 ng5 ng6 Bg3 Bg4 Bg5 Bg6
 refine lNp (hK1 _ _ ?_)
 refine Z10 (fun K8 hK8 => ?_)
 refine Z30 1 (by kernel_rfl) (fun Lk hLk => ?_)
 simp only [Z7, Z8]
 refine vAl ?_
 refine Z19 (hLk.out _ ?_)
 simp only [Z7, Z8]
 refine wpN_new (t := 129) (cs := ([.int .u64 0, .int .u64 0, .int .u64 0, .int .u64 0, .int .u64 0, .int .u64 0, .int .u64 0, .int .u64 0]).toArray) (by rfl) (fun W => ?_) (fun g10 Hg10 ng10 => ?_)
 ·
  go_simp
 simp only [Z0, Z6]
 refine Z29 (fun w11 Sw11 hbs => ?_)
 have Bg10 : Blk w11 g10 129 ([.int .u64 0, .int .u64 0, .int .u64 0, .int .u64 0, .int .u64 0, .int .u64 0, .int .u64 0, .int .u64 0]).toArray := hbs _ (List.mem_cons_self ..)
 clear hbs
 have Ng3_g10 : g3 ≠ g10 := Z4 (Z1 Lg3 Hg10)
 have Ng4_g10 : g4 ≠ g10 := Z4 (Z1 Lg4 Hg10)
 have Ng5_g10 : g5 ≠ g10 := Z4 (Z1 Lg5 Hg10)
 have Ng6_g10 : g6 ≠ g10 := Z4 (Z1 Lg6 Hg10)
 have Gg10 : w.heap.size ≤ g10 := Z3 BE.size Hg10
 replace Rg3_0 := Z26 Rg3_0 Lg3 Sw11
 replace Tg3 := Z27 Tg3 Lg3 Sw11
 replace Rg4_0 := Z26 Rg4_0 Lg4 Sw11
 replace Tg4 := Z27 Tg4 Lg4 Sw11
 replace Rg5_0 := Z26 Rg5_0 Lg5 Sw11
 replace Tg5 := Z27 Tg5 Lg5 Sw11
 replace Rg6_0 := Z26 Rg6_0 Lg6 Sw11
 replace Tg6 := Z27 Tg6 Lg6 Sw11
 replace Lg3 := Z1 Lg3 Sw11.2.2.size
 replace Lg4 := Z1 Lg4 Sw11.2.2.size
 replace Lg5 := Z1 Lg5 Sw11.2.2.size
 replace Lg6 := Z1 Lg6 Sw11.2.2.size
 replace BE := BE.trans (Sw11.2.2.mono BE.size)
 have Tg10 := blk_there Bg10 (n := 8) (by simp [flen])
 have Rg10_0 := blk_range Bg10 (l := [.int .u64 0, .int .u64 0, .int .u64 0, .int .u64 0, .int .u64 0, .int .u64 0, .int .u64 0, .int .u64 0]) rfl
 have Lg10 := Bg10.lt
 clear ng10 Bg10
 refine lNp (hK8 _ _ ?_)
 refine Z10 (fun K12 hK12 => ?_)
 refine Z10 (fun K13 hK13 => ?_)
 refine Z30 2 (by kernel_rfl) (fun Lk hLk => ?_)
 simp only [Z7, Z8]
 refine vLd (cs := fel x) Rg3_0 Lg3 U986 info86 ?_
 simp only [Z0, Z6]
 refine vMv (v := .int .i64 0) ?_
 simp only [Z0, Z6]
 refine Z19 (hLk.out _ ?_)
 simp only [Z7, Z8]
 iterate 2 refine Z28 (by rfl) ?_
 refine Z29 (fun w15 Sw15 hbs => ?_)
 clear hbs
 replace Rg3_0 := Z26 Rg3_0 Lg3 Sw15
 replace Tg3 := Z27 Tg3 Lg3 Sw15
 replace Rg4_0 := Z26 Rg4_0 Lg4 Sw15
 replace Tg4 := Z27 Tg4 Lg4 Sw15
 replace Rg5_0 := Z26 Rg5_0 Lg5 Sw15
 replace Tg5 := Z27 Tg5 Lg5 Sw15
 replace Rg6_0 := Z26 Rg6_0 Lg6 Sw15
 replace Tg6 := Z27 Tg6 Lg6 Sw15
 replace Rg10_0 := Z26 Rg10_0 Lg10 Sw15
 replace Tg10 := Z27 Tg10 Lg10 Sw15
 replace Lg3 := Z1 Lg3 Sw15.2.2.size
 replace Lg4 := Z1 Lg4 Sw15.2.2.size
 replace Lg5 := Z1 Lg5 Sw15.2.2.size
 replace Lg6 := Z1 Lg6 Sw15.2.2.size
 replace Lg10 := Z1 Lg10 Sw15.2.2.size
 replace BE := BE.trans (Sw15.2.2.mono BE.size)
 refine lNp (hK13 _ _ ?_)
 refine wp_block ?_
 refine wp_loop_ghost (fun n9 a9 W9 => ∃ (i : Nat) (N : Nat) (u16 : Nat → Value), n9 = 4 - i ∧ a9 = { tmps := #[fe x, fe y, .pointer (some ⟨g3, 0, none⟩), .pointer (some ⟨g4, 0, none⟩), .pointer (some ⟨g5, 0, none⟩), .pointer (some ⟨g6, 0, none⟩), .pointer (some ⟨g10, 0, none⟩), u16 7, u16 8, u16 9, u16 10, u16 11, u16 12, u16 13, u16 14, u16 15, u16 16, u16 17, fe x, .int .i64 i, u16 20, u16 21, u16 22, u16 23, u16 24, u16 25, u16 26, u16 27, u16 28, u16 29, u16 30, u16 31, u16 32, u16 33, u16 34, u16 35, u16 36, u16 37, u16 38, u16 39, u16 40, u16 41, u16 42, u16 43, u16 44, u16 45, u16 46, u16 47, u16 48, u16 49, u16 50, u16 51, u16 52, u16 53, u16 54, u16 55, u16 56, u16 57, u16 58, u16 59, u16 60, u16 61, u16 62, u16 63, u16 64, u16 65, Z9, Z9, Z9, Z9, Z9, Z9], defers := [] } ∧ Below w.heap.size w W9 ∧ World.rangeAt W9 g3 0 (fel x) ∧ World.there W9 g3 0 4 ∧ g3 < W9.heap.size ∧ World.rangeAt W9 g4 0 (fel y) ∧ World.there W9 g4 0 4 ∧ g4 < W9.heap.size ∧ World.rangeAt W9 g5 0 ([.int .u64 0, .int .u64 0, .int .u64 0, .int .u64 0]) ∧ World.there W9 g5 0 4 ∧ g5 < W9.heap.size ∧ World.rangeAt W9 g6 0 ([.int .u64 0, .int .u64 0, .int .u64 0, .int .u64 0]) ∧ World.there W9 g6 0 4 ∧ g6 < W9.heap.size ∧ World.rangeAt W9 g10 0 (wl 8 N) ∧ World.there W9 g10 0 8 ∧ g10 < W9.heap.size ∧ (i ≤ 4) ∧ (N = (x % 2 ^ (64 * i)) * y)) (4 - (0)) ?_ (fun n9 a9 W9 hI => ?_)
 ·
  exact ⟨0, 0, (fun q9 => (#[Z9, Z9, Z9, Z9, Z9, Z9, Z9, Z9, Z9, Z9, Z9, Z9, Z9, Z9, Z9, Z9, Z9, Z9, Z9, Z9, Z9, Z9, Z9, Z9, Z9, Z9, Z9, Z9, Z9, Z9, Z9, Z9, Z9, Z9, Z9, Z9, Z9, Z9, Z9, Z9, Z9, Z9, Z9, Z9, Z9, Z9, Z9, Z9, Z9, Z9, Z9, Z9, Z9, Z9, Z9, Z9, Z9, Z9, Z9, Z9, Z9, Z9, Z9, Z9, Z9, Z9] : Array Value).getD q9 Z9), rfl, rfl, BE, Rg3_0, Tg3, Lg3, Rg4_0, Tg4, Lg4, Rg5_0, Tg5, Lg5, Rg6_0, Tg6, Lg6, (by rw [wl_zero]; exact Rg10_0), Tg10, Lg10, (by omega), (by simp [Nat.mod_one])⟩
 clear BE Rg3_0 Rg4_0 Rg5_0 Rg6_0 Rg10_0 Tg3 Tg4 Tg5 Tg6 Tg10 Lg3 Lg4 Lg5 Lg6 Lg10
 obtain ⟨i, N, u16, rfl, rfl, BE, Rg3_0, Tg3, Lg3, Rg4_0, Tg4, Lg4, Rg5_0, Tg5, Lg5, Rg6_0, Tg6, Lg6, Rg10_0, Tg10, Lg10, hi4, HN⟩ := hI
 obtain ⟨w17, rfl⟩ : ∃ W8, W8 = W9 := ⟨_, rfl⟩
 refine Z10 (fun K18 hK18 => ?_)
 refine Z30 1 (by kernel_rfl) (fun Lk hLk => ?_)
 simp only [Z7, Z8]
 refine vBn (v := .bool (decide (i < 4))) (hr := fun W => run_lssN i 4 _ _ W) ?_
 simp only [Z0, Z6]
 refine Z19 (hLk.out _ ?_)
 simp only [Z7, Z8]
 iterate 1 refine Z28 (by rfl) ?_
 refine Z29 (fun w20 Sw20 hbs => ?_)
 clear hbs
 replace Rg3_0 := Z26 Rg3_0 Lg3 Sw20
 replace Tg3 := Z27 Tg3 Lg3 Sw20
 replace Rg4_0 := Z26 Rg4_0 Lg4 Sw20
 replace Tg4 := Z27 Tg4 Lg4 Sw20
 replace Rg5_0 := Z26 Rg5_0 Lg5 Sw20
 replace Tg5 := Z27 Tg5 Lg5 Sw20
 replace Rg6_0 := Z26 Rg6_0 Lg6 Sw20
 replace Tg6 := Z27 Tg6 Lg6 Sw20
 replace Rg10_0 := Z26 Rg10_0 Lg10 Sw20
 replace Tg10 := Z27 Tg10 Lg10 Sw20
 replace Lg3 := Z1 Lg3 Sw20.2.2.size
 replace Lg4 := Z1 Lg4 Sw20.2.2.size
 replace Lg5 := Z1 Lg5 Sw20.2.2.size
 replace Lg6 := Z1 Lg6 Sw20.2.2.size
 replace Lg10 := Z1 Lg10 Sw20.2.2.size
 replace BE := BE.trans (Sw20.2.2.mono BE.size)
 refine lNp (hK18 _ _ ?_)
 refine Z10 (fun K21 hK21 => ?_)
 cases hc22 : (decide (i < 4))
 ·
  have ei : i = 4 := by have := of_decide_eq_false hc22; omega
  subst ei
  refine Z12 rfl ?_
  refine wp_exit ?_
  refine hK12 _ _ ?_
  refine Z10 (fun K23 hK23 => ?_)
  have hN : N = x * y := by rw [HN, Z5 (by simpa using hx)]
  subst hN
  clear HN
  have c0 : w20.cell? ⟨g10, 0, none⟩ = some (.int .u64 (limb (x * y) 0)) := by have := Rg10_0 0 _ (wl_get 8 _ (by decide)); rwa [Z2] at this
  have c1 : w20.cell? ⟨g10, 1, none⟩ = some (.int .u64 (limb (x * y) 1)) := by have := Rg10_0 1 _ (wl_get 8 _ (by decide)); rwa [Z2] at this
  have c2 : w20.cell? ⟨g10, 2, none⟩ = some (.int .u64 (limb (x * y) 2)) := by have := Rg10_0 2 _ (wl_get 8 _ (by decide)); rwa [Z2] at this
  have c3 : w20.cell? ⟨g10, 3, none⟩ = some (.int .u64 (limb (x * y) 3)) := by have := Rg10_0 3 _ (wl_get 8 _ (by decide)); rwa [Z2] at this
  have c4 : w20.cell? ⟨g10, 4, none⟩ = some (.int .u64 (limb (x * y) 4)) := by have := Rg10_0 4 _ (wl_get 8 _ (by decide)); rwa [Z2] at this
  have c5 : w20.cell? ⟨g10, 5, none⟩ = some (.int .u64 (limb (x * y) 5)) := by have := Rg10_0 5 _ (wl_get 8 _ (by decide)); rwa [Z2] at this
  have c6 : w20.cell? ⟨g10, 6, none⟩ = some (.int .u64 (limb (x * y) 6)) := by have := Rg10_0 6 _ (wl_get 8 _ (by decide)); rwa [Z2] at this
  have c7 : w20.cell? ⟨g10, 7, none⟩ = some (.int .u64 (limb (x * y) 7)) := by have := Rg10_0 7 _ (wl_get 8 _ (by decide)); rwa [Z2] at this
  have p0 : w20.cell? ⟨g5, 0, none⟩ = some (.int .u64 0) := by have := Rg5_0 0 _ rfl; rwa [Z2] at this
  have p1 : w20.cell? ⟨g5, 1, none⟩ = some (.int .u64 0) := by have := Rg5_0 1 _ rfl; rwa [Z2] at this
  have p2 : w20.cell? ⟨g5, 2, none⟩ = some (.int .u64 0) := by have := Rg5_0 2 _ rfl; rwa [Z2] at this
  have p3 : w20.cell? ⟨g5, 3, none⟩ = some (.int .u64 0) := by have := Rg5_0 3 _ rfl; rwa [Z2] at this
  have pf : ∀ j, j < 4 → w20.frozen? ⟨g5, j, none⟩ = false := fun j hj => by have := (Tg5 j hj).2; rwa [Z2] at this
  have pf0 := pf 0 (by decide)
  have pf1 := pf 1 (by decide)
  have pf2 := pf 2 (by decide)
  have pf3 := pf 3 (by decide)
  clear pf
  have r0 : w20.cell? ⟨g6, 0, none⟩ = some (.int .u64 0) := by have := Rg6_0 0 _ rfl; rwa [Z2] at this
  have r1 : w20.cell? ⟨g6, 1, none⟩ = some (.int .u64 0) := by have := Rg6_0 1 _ rfl; rwa [Z2] at this
  have r2 : w20.cell? ⟨g6, 2, none⟩ = some (.int .u64 0) := by have := Rg6_0 2 _ rfl; rwa [Z2] at this
  have r3 : w20.cell? ⟨g6, 3, none⟩ = some (.int .u64 0) := by have := Rg6_0 3 _ rfl; rwa [Z2] at this
  have rf : ∀ j, j < 4 → w20.frozen? ⟨g6, j, none⟩ = false := fun j hj => by have := (Tg6 j hj).2; rwa [Z2] at this
  have rf0 := rf 0 (by decide)
  have rf1 := rf 1 (by decide)
  have rf2 := rf 2 (by decide)
  have rf3 := rf 3 (by decide)
  clear rf
  have HT0 := Lib.hid Tg5; have HT1 := Lib.hid Tg6; have HBE := Lib.hid BE; have HN5 := Lib.hid Ng5_g6
  have ha := fun (p : Option Addr) (l c : Nat) (hl : 4 ≤ l) (w : World) => run_arrayAt (P := Tryd.prog) (cap := c) (p := p) U986 hl w
  have ha4 := fun (p : Option Addr) (c : Nat) (w : World) => ha p 4 c (by decide) w
  clear ha
  go_region
  refine hK23 _ _ ?_
  refine wp_world (fun W => World.rangeAt W g5 0 (fel (mulLo x y)) ∧ World.rangeAt W g6 0 (fel (mulHi x y)) ∧ Below w.heap.size w W) ?_ ?_
  ·
   unfold mulLo mulHi; rw [fel_lo, fel_hi]
   have X := two_rows (A := [.int .u64 (limb (x * y) 0), .int .u64 (limb (x * y) 1), .int .u64 (limb (x * y) 2), .int .u64 (limb (x * y) 3)]) (C := [.int .u64 (limb (x * y) 4), .int .u64 (limb (x * y) 5), .int .u64 (limb (x * y) 6), .int .u64 (limb (x * y) 7)]) HT0.out HT1.out HN5.out HBE.out Gg5 Gg6
   simp only [World.setCells, Z2, Nat.reduceAdd] at X
   exact X
  clear HT0 HT1 HBE HN5 BE
  rintro w24 ⟨R0, R1, BE⟩
  refine wp_ret ?_
  refine bodyPost_ret (v := .tuple #[fe (mulLo x y), fe (mulHi x y)]) (res2 rfl (.cell (by rfl) (run_loadVar_mid _ _ _ _ (fel (mulLo x y)) _ R0 U986 rfl info86)) (.cell (by rfl) (run_loadVar_mid _ _ _ _ (fel (mulHi x y)) _ R1 U986 rfl info86))) rfl ⟨rfl, BE⟩
 have hi : i < 4 := of_decide_eq_true hc22
 refine Z11 rfl ?_
 refine wp_skip ?_
 refine hK21 _ _ ?_
 refine Z10 (fun K25 hK25 => ?_)
 refine wp_block ?_
 refine Z10 (fun K26 hK26 => ?_)
 refine Z30 2 (by kernel_rfl) (fun Lk hLk => ?_)
 simp only [Z7, Z8]
 refine vMv (v := .int .i64 i) ?_
 simp only [Z0, Z6]
 refine wpV_index (n := i) (v := .int .u64 (limbN x i : Nat)) (by rfl) rfl rfl rfl U986 info40 U940 rfl (by omega) (fel_get (j := i) x (by omega)) ?_
 simp only [Z0, Z6]
 refine Z19 (hLk.out _ ?_)
 simp only [Z7, Z8]
 iterate 2 refine Z28 (by rfl) ?_
 refine Z29 (fun w28 Sw28 hbs => ?_)
 clear hbs
 replace Rg3_0 := Z26 Rg3_0 Lg3 Sw28
 replace Tg3 := Z27 Tg3 Lg3 Sw28
 replace Rg4_0 := Z26 Rg4_0 Lg4 Sw28
 replace Tg4 := Z27 Tg4 Lg4 Sw28
 replace Rg5_0 := Z26 Rg5_0 Lg5 Sw28
 replace Tg5 := Z27 Tg5 Lg5 Sw28
 replace Rg6_0 := Z26 Rg6_0 Lg6 Sw28
 replace Tg6 := Z27 Tg6 Lg6 Sw28
 replace Rg10_0 := Z26 Rg10_0 Lg10 Sw28
 replace Tg10 := Z27 Tg10 Lg10 Sw28
 replace Lg3 := Z1 Lg3 Sw28.2.2.size
 replace Lg4 := Z1 Lg4 Sw28.2.2.size
 replace Lg5 := Z1 Lg5 Sw28.2.2.size
 replace Lg6 := Z1 Lg6 Sw28.2.2.size
 replace Lg10 := Z1 Lg10 Sw28.2.2.size
 replace BE := BE.trans (Sw28.2.2.mono BE.size)
 refine lAs (v := .int .i64 i) ?_
 refine lAs (v := .int .u64 (limbN x i : Nat)) ?_
 simp only [Z0, Z6]
 refine lNp (hK26 _ _ ?_)
 refine Z10 (fun K29 hK29 => ?_)
 refine Z30 0 (by kernel_rfl) (fun Lk hLk => ?_)
 simp only [Z7, Z8]
 refine Z19 (hLk.out _ ?_)
 simp only [Z7, Z8]
 refine Z29 (fun w31 Sw31 hbs => ?_)
 clear hbs
 replace Rg3_0 := Z26 Rg3_0 Lg3 Sw31
 replace Tg3 := Z27 Tg3 Lg3 Sw31
 replace Rg4_0 := Z26 Rg4_0 Lg4 Sw31
 replace Tg4 := Z27 Tg4 Lg4 Sw31
 replace Rg5_0 := Z26 Rg5_0 Lg5 Sw31
 replace Tg5 := Z27 Tg5 Lg5 Sw31
 replace Rg6_0 := Z26 Rg6_0 Lg6 Sw31
 replace Tg6 := Z27 Tg6 Lg6 Sw31
 replace Rg10_0 := Z26 Rg10_0 Lg10 Sw31
 replace Tg10 := Z27 Tg10 Lg10 Sw31
 replace Lg3 := Z1 Lg3 Sw31.2.2.size
 replace Lg4 := Z1 Lg4 Sw31.2.2.size
 replace Lg5 := Z1 Lg5 Sw31.2.2.size
 replace Lg6 := Z1 Lg6 Sw31.2.2.size
 replace Lg10 := Z1 Lg10 Sw31.2.2.size
 replace BE := BE.trans (Sw31.2.2.mono BE.size)
 refine lAs (v := .int .u64 0) ?_
 simp only [Z0, Z6]
 refine lNp (hK29 _ _ ?_)
 refine Z10 (fun K32 hK32 => ?_)
 refine Z10 (fun K33 hK33 => ?_)
 refine Z30 2 (by kernel_rfl) (fun Lk hLk => ?_)
 simp only [Z7, Z8]
 refine vLd (cs := fel y) Rg4_0 Lg4 U986 info86 ?_
 simp only [Z0, Z6]
 refine vMv (v := .int .i64 0) ?_
 simp only [Z0, Z6]
 refine Z19 (hLk.out _ ?_)
 simp only [Z7, Z8]
 iterate 2 refine Z28 (by rfl) ?_
 refine Z29 (fun w35 Sw35 hbs => ?_)
 clear hbs
 replace Rg3_0 := Z26 Rg3_0 Lg3 Sw35
 replace Tg3 := Z27 Tg3 Lg3 Sw35
 replace Rg4_0 := Z26 Rg4_0 Lg4 Sw35
 replace Tg4 := Z27 Tg4 Lg4 Sw35
 replace Rg5_0 := Z26 Rg5_0 Lg5 Sw35
 replace Tg5 := Z27 Tg5 Lg5 Sw35
 replace Rg6_0 := Z26 Rg6_0 Lg6 Sw35
 replace Tg6 := Z27 Tg6 Lg6 Sw35
 replace Rg10_0 := Z26 Rg10_0 Lg10 Sw35
 replace Tg10 := Z27 Tg10 Lg10 Sw35
 replace Lg3 := Z1 Lg3 Sw35.2.2.size
 replace Lg4 := Z1 Lg4 Sw35.2.2.size
 replace Lg5 := Z1 Lg5 Sw35.2.2.size
 replace Lg6 := Z1 Lg6 Sw35.2.2.size
 replace Lg10 := Z1 Lg10 Sw35.2.2.size
 replace BE := BE.trans (Sw35.2.2.mono BE.size)
 refine lNp (hK33 _ _ ?_)
 refine wp_block ?_
 refine wp_loop_ghost (fun n9 a9 W9 => ∃ (k : Nat) (M : Nat) (c : Nat) (u36 : Nat → Value), n9 = 4 - k ∧ a9 = { tmps := #[fe x, fe y, .pointer (some ⟨g3, 0, none⟩), .pointer (some ⟨g4, 0, none⟩), .pointer (some ⟨g5, 0, none⟩), .pointer (some ⟨g6, 0, none⟩), .pointer (some ⟨g10, 0, none⟩), .int .i64 i, .int .u64 (limbN x i : Nat), .int .u64 c, u36 10, u36 11, u36 12, u36 13, u36 14, u36 15, u36 16, u36 17, fe x, .int .i64 i, .bool true, .int .i64 i, .int .u64 (limbN x i : Nat), fe y, .int .i64 k, u36 25, u36 26, u36 27, u36 28, u36 29, u36 30, u36 31, u36 32, u36 33, u36 34, u36 35, u36 36, u36 37, u36 38, u36 39, u36 40, u36 41, u36 42, u36 43, u36 44, u36 45, u36 46, u36 47, u36 48, u36 49, u36 50, u36 51, u36 52, u36 53, u36 54, u36 55, u36 56, u36 57, u36 58, u36 59, u36 60, u16 61, u16 62, u16 63, u16 64, u16 65, Z9, Z9, Z9, Z9, Z9, Z9], defers := [] } ∧ Below w.heap.size w W9 ∧ World.rangeAt W9 g3 0 (fel x) ∧ World.there W9 g3 0 4 ∧ g3 < W9.heap.size ∧ World.rangeAt W9 g4 0 (fel y) ∧ World.there W9 g4 0 4 ∧ g4 < W9.heap.size ∧ World.rangeAt W9 g5 0 ([.int .u64 0, .int .u64 0, .int .u64 0, .int .u64 0]) ∧ World.there W9 g5 0 4 ∧ g5 < W9.heap.size ∧ World.rangeAt W9 g6 0 ([.int .u64 0, .int .u64 0, .int .u64 0, .int .u64 0]) ∧ World.there W9 g6 0 4 ∧ g6 < W9.heap.size ∧ World.rangeAt W9 g10 0 (wl 8 M) ∧ World.there W9 g10 0 8 ∧ g10 < W9.heap.size ∧ (k ≤ 4) ∧ (WideInv x y i k M c)) (4 - (0)) ?_ (fun n9 a9 W9 hI => ?_)
 ·
  exact ⟨0, N, 0, (fun q9 => (#[Z9, Z9, Z9, Z9, Z9, Z9, Z9, Z9, Z9, Z9, u16 10, u16 11, u16 12, u16 13, u16 14, u16 15, u16 16, u16 17, Z9, Z9, Z9, Z9, Z9, Z9, Z9, u16 25, u16 26, u16 27, u16 28, u16 29, u16 30, u16 31, u16 32, u16 33, u16 34, u16 35, u16 36, u16 37, u16 38, u16 39, u16 40, u16 41, u16 42, u16 43, u16 44, u16 45, u16 46, u16 47, u16 48, u16 49, u16 50, u16 51, u16 52, u16 53, u16 54, u16 55, u16 56, u16 57, u16 58, u16 59, u16 60] : Array Value).getD q9 Z9), rfl, rfl, BE, Rg3_0, Tg3, Lg3, Rg4_0, Tg4, Lg4, Rg5_0, Tg5, Lg5, Rg6_0, Tg6, Lg6, Rg10_0, Tg10, Lg10, (by omega), (wide_start HN hy)⟩
 clear BE Rg3_0 Rg4_0 Rg5_0 Rg6_0 Rg10_0 Tg3 Tg4 Tg5 Tg6 Tg10 Lg3 Lg4 Lg5 Lg6 Lg10
 obtain ⟨k, M, c, u36, rfl, rfl, BE, Rg3_0, Tg3, Lg3, Rg4_0, Tg4, Lg4, Rg5_0, Tg5, Lg5, Rg6_0, Tg6, Lg6, Rg10_0, Tg10, Lg10, hk4, HW⟩ := hI
 obtain ⟨w37, rfl⟩ : ∃ W8, W8 = W9 := ⟨_, rfl⟩
 have hcw := HW.word
 refine Z10 (fun K38 hK38 => ?_)
 refine Z30 1 (by kernel_rfl) (fun Lk hLk => ?_)
 simp only [Z7, Z8]
 refine vBn (v := .bool (decide (k < 4))) (hr := fun W => run_lssN k 4 _ _ W) ?_
 simp only [Z0, Z6]
 refine Z19 (hLk.out _ ?_)
 simp only [Z7, Z8]
 iterate 1 refine Z28 (by rfl) ?_
 refine Z29 (fun w40 Sw40 hbs => ?_)
 clear hbs
 replace Rg3_0 := Z26 Rg3_0 Lg3 Sw40
 replace Tg3 := Z27 Tg3 Lg3 Sw40
 replace Rg4_0 := Z26 Rg4_0 Lg4 Sw40
 replace Tg4 := Z27 Tg4 Lg4 Sw40
 replace Rg5_0 := Z26 Rg5_0 Lg5 Sw40
 replace Tg5 := Z27 Tg5 Lg5 Sw40
 replace Rg6_0 := Z26 Rg6_0 Lg6 Sw40
 replace Tg6 := Z27 Tg6 Lg6 Sw40
 replace Rg10_0 := Z26 Rg10_0 Lg10 Sw40
 replace Tg10 := Z27 Tg10 Lg10 Sw40
 replace Lg3 := Z1 Lg3 Sw40.2.2.size
 replace Lg4 := Z1 Lg4 Sw40.2.2.size
 replace Lg5 := Z1 Lg5 Sw40.2.2.size
 replace Lg6 := Z1 Lg6 Sw40.2.2.size
 replace Lg10 := Z1 Lg10 Sw40.2.2.size
 replace BE := BE.trans (Sw40.2.2.mono BE.size)
 refine lNp (hK38 _ _ ?_)
 refine Z10 (fun K41 hK41 => ?_)
 cases hc42 : (decide (k < 4))
 ·
  have ek : k = 4 := by have := of_decide_eq_false hc42; omega
  subst ek
  refine Z12 rfl ?_
  refine wp_exit ?_
  refine hK32 _ _ ?_
  refine Z30 4 (by kernel_rfl) (fun Lk hLk => ?_)
  simp only [Z7, Z8]
  refine vMv (v := .int .i64 i) ?_
  simp only [Z0, Z6]
  refine vBn (v := .int .i64 (i + 4 : Nat)) (hr := fun W => run_add (by simp only [IntKind.wrap_i64]; omega) W) ?_
  simp only [Z0, Z6]
  refine vMv (v := .int .u64 c) ?_
  simp only [Z0, Z6]
  refine wpV_idx (n := i + 4) (by rfl) rfl rfl rfl U9129 info40 (by omega) ?_
  simp only [Z2]
  simp only [Z0, Z6]
  refine Z19 (hLk.out _ ?_)
  simp only [Z7, Z8]
  iterate 4 refine Z28 (by rfl) ?_
  refine Z29 (fun w44 Sw44 hbs => ?_)
  clear hbs
  replace Rg3_0 := Z26 Rg3_0 Lg3 Sw44
  replace Tg3 := Z27 Tg3 Lg3 Sw44
  replace Rg4_0 := Z26 Rg4_0 Lg4 Sw44
  replace Tg4 := Z27 Tg4 Lg4 Sw44
  replace Rg5_0 := Z26 Rg5_0 Lg5 Sw44
  replace Tg5 := Z27 Tg5 Lg5 Sw44
  replace Rg6_0 := Z26 Rg6_0 Lg6 Sw44
  replace Tg6 := Z27 Tg6 Lg6 Sw44
  replace Rg10_0 := Z26 Rg10_0 Lg10 Sw44
  replace Tg10 := Z27 Tg10 Lg10 Sw44
  replace Lg3 := Z1 Lg3 Sw44.2.2.size
  replace Lg4 := Z1 Lg4 Sw44.2.2.size
  replace Lg5 := Z1 Lg5 Sw44.2.2.size
  replace Lg6 := Z1 Lg6 Sw44.2.2.size
  replace Lg10 := Z1 Lg10 Sw44.2.2.size
  replace BE := BE.trans (Sw44.2.2.mono BE.size)
  refine lS1 (g := g10) (off := i + 4) (n := 8) (v := .int .u64 c) Tg10 (by omega) info40 rfl (fun w45 Pw45 RR TT => ?_)
  replace Rg3_0 := Pw45.range Rg3_0 (.inl Ng3_g10)
  replace Tg3 := Pw45.other_there Tg3 Ng3_g10
  replace Rg4_0 := Pw45.range Rg4_0 (.inl Ng4_g10)
  replace Tg4 := Pw45.other_there Tg4 Ng4_g10
  replace Rg5_0 := Pw45.range Rg5_0 (.inl Ng5_g10)
  replace Tg5 := Pw45.other_there Tg5 Ng5_g10
  replace Rg6_0 := Pw45.range Rg6_0 (.inl Ng6_g10)
  replace Tg6 := Pw45.other_there Tg6 Ng6_g10
  replace Rg10_0 := range_set Rg10_0 Pw45 RR
  clear RR
  replace Tg10 := TT
  replace Lg3 := Pw45.lt Lg3
  replace Lg4 := Pw45.lt Lg4
  replace Lg5 := Pw45.lt Lg5
  replace Lg6 := Pw45.lt Lg6
  replace Lg10 := Pw45.lt Lg10
  replace BE := Pw45.below BE Gg10
  rw [wl_set (wideN_eq hy HW) HW.word] at Rg10_0
  refine lNp (hK25 _ _ ?_)
  refine Z30 2 (by kernel_rfl) (fun Lk hLk => ?_)
  simp only [Z7, Z8]
  refine vBn (v := .int .i64 (i + 1 : Nat)) (hr := fun W => run_add (by simp only [IntKind.wrap_i64]; omega) W) ?_
  simp only [Z0, Z6]
  refine vMv (v := .int .i64 (i + 1 : Nat)) ?_
  simp only [Z0, Z6]
  refine Z19 (hLk.out _ ?_)
  simp only [Z7, Z8]
  iterate 2 refine Z28 (by rfl) ?_
  refine Z29 (fun w47 Sw47 hbs => ?_)
  clear hbs
  replace Rg3_0 := Z26 Rg3_0 Lg3 Sw47
  replace Tg3 := Z27 Tg3 Lg3 Sw47
  replace Rg4_0 := Z26 Rg4_0 Lg4 Sw47
  replace Tg4 := Z27 Tg4 Lg4 Sw47
  replace Rg5_0 := Z26 Rg5_0 Lg5 Sw47
  replace Tg5 := Z27 Tg5 Lg5 Sw47
  replace Rg6_0 := Z26 Rg6_0 Lg6 Sw47
  replace Tg6 := Z27 Tg6 Lg6 Sw47
  replace Rg10_0 := Z26 Rg10_0 Lg10 Sw47
  replace Tg10 := Z27 Tg10 Lg10 Sw47
  replace Lg3 := Z1 Lg3 Sw47.2.2.size
  replace Lg4 := Z1 Lg4 Sw47.2.2.size
  replace Lg5 := Z1 Lg5 Sw47.2.2.size
  replace Lg6 := Z1 Lg6 Sw47.2.2.size
  replace Lg10 := Z1 Lg10 Sw47.2.2.size
  replace BE := BE.trans (Sw47.2.2.mono BE.size)
  refine Z14 (Z15 ?_)
  refine Exists.intro _ ⟨?_, (i + 1), (wideN M i c), (fun q9 => (#[Z9, Z9, Z9, Z9, Z9, Z9, Z9, .int .i64 i, .int .u64 (limbN x i : Nat), .int .u64 c, u36 10, u36 11, u36 12, u36 13, u36 14, u36 15, u36 16, u36 17, Z9, Z9, .bool true, .int .i64 i, .int .u64 (limbN x i : Nat), fe y, .int .i64 (4 : Nat), .bool false, u36 26, u36 27, u36 28, u36 29, u36 30, u36 31, u36 32, u36 33, u36 34, u36 35, u36 36, u36 37, u36 38, u36 39, u36 40, u36 41, u36 42, u36 43, u36 44, u36 45, u36 46, u36 47, u36 48, u36 49, u36 50, u36 51, u36 52, u36 53, u36 54, u36 55, u36 56, u36 57, u36 58, u36 59, u36 60, .int .i64 i, .int .i64 (i + 4 : Nat), .int .u64 c, .pointer (some ⟨g10, i + 4, none⟩), .int .i64 (i + 1 : Nat)] : Array Value).getD q9 Z9), rfl, rfl, BE, Rg3_0, Tg3, Lg3, Rg4_0, Tg4, Lg4, Rg5_0, Tg5, Lg5, Rg6_0, Tg6, Lg6, Rg10_0, Tg10, Lg10, (by omega), (wide_end hy HW).1⟩
  omega
 have hk : k < 4 := of_decide_eq_true hc42
 refine Z11 rfl ?_
 refine wp_skip ?_
 refine hK41 _ _ ?_
 refine Z10 (fun K48 hK48 => ?_)
 refine wp_block ?_
 refine Z10 (fun K49 hK49 => ?_)
 refine Z30 2 (by kernel_rfl) (fun Lk hLk => ?_)
 simp only [Z7, Z8]
 refine vMv (v := .int .i64 k) ?_
 simp only [Z0, Z6]
 refine wpV_index (n := k) (v := .int .u64 (limbN y k : Nat)) (by rfl) rfl rfl rfl U986 info40 U940 rfl (by omega) (fel_get (j := k) y (by omega)) ?_
 simp only [Z0, Z6]
 refine Z19 (hLk.out _ ?_)
 simp only [Z7, Z8]
 iterate 2 refine Z28 (by rfl) ?_
 refine Z29 (fun w51 Sw51 hbs => ?_)
 clear hbs
 replace Rg3_0 := Z26 Rg3_0 Lg3 Sw51
 replace Tg3 := Z27 Tg3 Lg3 Sw51
 replace Rg4_0 := Z26 Rg4_0 Lg4 Sw51
 replace Tg4 := Z27 Tg4 Lg4 Sw51
 replace Rg5_0 := Z26 Rg5_0 Lg5 Sw51
 replace Tg5 := Z27 Tg5 Lg5 Sw51
 replace Rg6_0 := Z26 Rg6_0 Lg6 Sw51
 replace Tg6 := Z27 Tg6 Lg6 Sw51
 replace Rg10_0 := Z26 Rg10_0 Lg10 Sw51
 replace Tg10 := Z27 Tg10 Lg10 Sw51
 replace Lg3 := Z1 Lg3 Sw51.2.2.size
 replace Lg4 := Z1 Lg4 Sw51.2.2.size
 replace Lg5 := Z1 Lg5 Sw51.2.2.size
 replace Lg6 := Z1 Lg6 Sw51.2.2.size
 replace Lg10 := Z1 Lg10 Sw51.2.2.size
 replace BE := BE.trans (Sw51.2.2.mono BE.size)
 refine lAs (v := .int .i64 k) ?_
 refine lAs (v := .int .u64 (limbN y k : Nat)) ?_
 simp only [Z0, Z6]
 refine lNp (hK49 _ _ ?_)
 refine Z10 (fun K52 hK52 => ?_)
 refine Z30 6 (by kernel_rfl) (fun Lk hLk => ?_)
 simp only [Z7, Z8]
 refine vMv (v := .int .u64 (limbN x i : Nat)) ?_
 simp only [Z0, Z6]
 refine vMv (v := .int .u64 (limbN y k : Nat)) ?_
 simp only [Z0, Z6]
 refine Z25 (v := .tuple #[.int .u64 ((limbN x i) * (limbN y k) / 18446744073709551616 : Nat), .int .u64 ((limbN x i) * (limbN y k) % 18446744073709551616 : Nat)]) (args := #[.int .u64 (limbN x i : Nat), .int .u64 (limbN y k : Nat)]) (by rfl) rfl Tryd.func87 (by kernel_rfl) (by kernel_rfl) rfl (fun W hW => mul64_c (limbN_lt _ _) (limbN_lt _ _) W) ?_
 simp only [Z0, Z6]
 refine vMv (v := .tuple #[.int .u64 ((limbN x i) * (limbN y k) / 18446744073709551616 : Nat), .int .u64 ((limbN x i) * (limbN y k) % 18446744073709551616 : Nat)]) ?_
 simp only [Z0, Z6]
 refine Z32 (v := .int .u64 ((limbN x i) * (limbN y k) / 18446744073709551616 : Nat)) (by rfl) rfl rfl rfl ?_
 simp only [Z0, Z6]
 refine Z32 (v := .int .u64 ((limbN x i) * (limbN y k) % 18446744073709551616 : Nat)) (by rfl) rfl rfl rfl ?_
 simp only [Z0, Z6]
 refine Z19 (hLk.out _ ?_)
 simp only [Z7, Z8]
 iterate 6 refine Z28 (by rfl) ?_
 refine Z29 (fun w54 Sw54 hbs => ?_)
 clear hbs
 replace Rg3_0 := Z26 Rg3_0 Lg3 Sw54
 replace Tg3 := Z27 Tg3 Lg3 Sw54
 replace Rg4_0 := Z26 Rg4_0 Lg4 Sw54
 replace Tg4 := Z27 Tg4 Lg4 Sw54
 replace Rg5_0 := Z26 Rg5_0 Lg5 Sw54
 replace Tg5 := Z27 Tg5 Lg5 Sw54
 replace Rg6_0 := Z26 Rg6_0 Lg6 Sw54
 replace Tg6 := Z27 Tg6 Lg6 Sw54
 replace Rg10_0 := Z26 Rg10_0 Lg10 Sw54
 replace Tg10 := Z27 Tg10 Lg10 Sw54
 replace Lg3 := Z1 Lg3 Sw54.2.2.size
 replace Lg4 := Z1 Lg4 Sw54.2.2.size
 replace Lg5 := Z1 Lg5 Sw54.2.2.size
 replace Lg6 := Z1 Lg6 Sw54.2.2.size
 replace Lg10 := Z1 Lg10 Sw54.2.2.size
 replace BE := BE.trans (Sw54.2.2.mono BE.size)
 refine lAs (v := .int .u64 ((limbN x i) * (limbN y k) / 18446744073709551616 : Nat)) ?_
 refine lAs (v := .int .u64 ((limbN x i) * (limbN y k) % 18446744073709551616 : Nat)) ?_
 simp only [Z0, Z6]
 refine lNp (hK52 _ _ ?_)
 refine Z10 (fun K55 hK55 => ?_)
 refine Z30 10 (by kernel_rfl) (fun Lk hLk => ?_)
 simp only [Z7, Z8]
 refine vMv (v := .int .u64 ((limbN x i) * (limbN y k) % 18446744073709551616 : Nat)) ?_
 simp only [Z0, Z6]
 refine vMv (v := .int .i64 i) ?_
 simp only [Z0, Z6]
 refine vMv (v := .int .i64 k) ?_
 simp only [Z0, Z6]
 refine vBn (v := .int .i64 (i + k : Nat)) (hr := fun W => run_add (by simp only [IntKind.wrap_i64]; omega) W) ?_
 simp only [Z0, Z6]
 refine wpV_idx (n := i + k) (by rfl) rfl rfl rfl U9129 info40 (by omega) ?_
 simp only [Z2]
 simp only [Z0, Z6]
 refine Z34 (v := .int .u64 (limbN M (i + k) : Nat)) (by rfl) rfl rfl (by have := Rg10_0 _ _ (wl_get (j := i + k) 8 M (by omega)); rwa [Z2] at this) Lg10 U940 rfl ?_
 simp only [Z0, Z6]
 refine wpV_ext (v := .tuple #[.int .u64 (((limbN x i) * (limbN y k) % 18446744073709551616 + limbN M (i + k)) % 18446744073709551616 : Nat), .int .u64 (((limbN x i) * (limbN y k) % 18446744073709551616 + limbN M (i + k)) / 18446744073709551616 : Nat)]) (f := 85) (args := #[.int .u64 ((limbN x i) * (limbN y k) % 18446744073709551616 : Nat), .int .u64 (limbN M (i + k) : Nat), .int .u64 0]) (by rfl) rfl rfl (addN (x := (limbN x i) * (limbN y k) % 18446744073709551616) (y := limbN M (i + k)) (c := 0) (Nat.mod_lt _ (by decide)) (limbN_lt _ _) (by omega)) ?_
 simp only [Z0, Z6]
 refine vMv (v := .tuple #[.int .u64 (((limbN x i) * (limbN y k) % 18446744073709551616 + limbN M (i + k)) % 18446744073709551616 : Nat), .int .u64 (((limbN x i) * (limbN y k) % 18446744073709551616 + limbN M (i + k)) / 18446744073709551616 : Nat)]) ?_
 simp only [Z0, Z6]
 refine Z32 (v := .int .u64 (((limbN x i) * (limbN y k) % 18446744073709551616 + limbN M (i + k)) % 18446744073709551616 : Nat)) (by rfl) rfl rfl rfl ?_
 simp only [Z0, Z6]
 refine Z32 (v := .int .u64 (((limbN x i) * (limbN y k) % 18446744073709551616 + limbN M (i + k)) / 18446744073709551616 : Nat)) (by rfl) rfl rfl rfl ?_
 simp only [Z0, Z6]
 refine Z19 (hLk.out _ ?_)
 simp only [Z7, Z8]
 iterate 10 refine Z28 (by rfl) ?_
 refine Z29 (fun w57 Sw57 hbs => ?_)
 clear hbs
 replace Rg3_0 := Z26 Rg3_0 Lg3 Sw57
 replace Tg3 := Z27 Tg3 Lg3 Sw57
 replace Rg4_0 := Z26 Rg4_0 Lg4 Sw57
 replace Tg4 := Z27 Tg4 Lg4 Sw57
 replace Rg5_0 := Z26 Rg5_0 Lg5 Sw57
 replace Tg5 := Z27 Tg5 Lg5 Sw57
 replace Rg6_0 := Z26 Rg6_0 Lg6 Sw57
 replace Tg6 := Z27 Tg6 Lg6 Sw57
 replace Rg10_0 := Z26 Rg10_0 Lg10 Sw57
 replace Tg10 := Z27 Tg10 Lg10 Sw57
 replace Lg3 := Z1 Lg3 Sw57.2.2.size
 replace Lg4 := Z1 Lg4 Sw57.2.2.size
 replace Lg5 := Z1 Lg5 Sw57.2.2.size
 replace Lg6 := Z1 Lg6 Sw57.2.2.size
 replace Lg10 := Z1 Lg10 Sw57.2.2.size
 replace BE := BE.trans (Sw57.2.2.mono BE.size)
 refine lAs (v := .int .u64 (((limbN x i) * (limbN y k) % 18446744073709551616 + limbN M (i + k)) % 18446744073709551616 : Nat)) ?_
 refine lAs (v := .int .u64 (((limbN x i) * (limbN y k) % 18446744073709551616 + limbN M (i + k)) / 18446744073709551616 : Nat)) ?_
 simp only [Z0, Z6]
 refine lNp (hK55 _ _ ?_)
 refine Z10 (fun K58 hK58 => ?_)
 refine Z30 6 (by kernel_rfl) (fun Lk hLk => ?_)
 simp only [Z7, Z8]
 refine vMv (v := .int .u64 (((limbN x i) * (limbN y k) % 18446744073709551616 + limbN M (i + k)) % 18446744073709551616 : Nat)) ?_
 simp only [Z0, Z6]
 refine vMv (v := .int .u64 c) ?_
 simp only [Z0, Z6]
 refine wpV_ext (v := .tuple #[.int .u64 (((((limbN x i) * (limbN y k) % 18446744073709551616 + limbN M (i + k)) % 18446744073709551616 + c) % 18446744073709551616 : Nat) : Int), .int .u64 (((((limbN x i) * (limbN y k) % 18446744073709551616 + limbN M (i + k)) % 18446744073709551616 + c) / 18446744073709551616 : Nat) : Int)]) (f := 85) (args := #[.int .u64 (((limbN x i) * (limbN y k) % 18446744073709551616 + limbN M (i + k)) % 18446744073709551616 : Nat), .int .u64 c, .int .u64 0]) (by rfl) rfl rfl (addN (x := ((limbN x i) * (limbN y k) % 18446744073709551616 + limbN M (i + k)) % 18446744073709551616) (y := c) (c := 0) (Nat.mod_lt _ (by decide)) (by omega) (by omega)) ?_
 simp only [Z0, Z6]
 refine vMv (v := .tuple #[.int .u64 (((((limbN x i) * (limbN y k) % 18446744073709551616 + limbN M (i + k)) % 18446744073709551616 + c) % 18446744073709551616 : Nat) : Int), .int .u64 (((((limbN x i) * (limbN y k) % 18446744073709551616 + limbN M (i + k)) % 18446744073709551616 + c) / 18446744073709551616 : Nat) : Int)]) ?_
 simp only [Z0, Z6]
 refine Z32 (v := .int .u64 (((((limbN x i) * (limbN y k) % 18446744073709551616 + limbN M (i + k)) % 18446744073709551616 + c) % 18446744073709551616 : Nat) : Int)) (by rfl) rfl rfl rfl ?_
 simp only [Z0, Z6]
 refine Z32 (v := .int .u64 (((((limbN x i) * (limbN y k) % 18446744073709551616 + limbN M (i + k)) % 18446744073709551616 + c) / 18446744073709551616 : Nat) : Int)) (by rfl) rfl rfl rfl ?_
 simp only [Z0, Z6]
 refine Z19 (hLk.out _ ?_)
 simp only [Z7, Z8]
 iterate 6 refine Z28 (by rfl) ?_
 refine Z29 (fun w60 Sw60 hbs => ?_)
 clear hbs
 replace Rg3_0 := Z26 Rg3_0 Lg3 Sw60
 replace Tg3 := Z27 Tg3 Lg3 Sw60
 replace Rg4_0 := Z26 Rg4_0 Lg4 Sw60
 replace Tg4 := Z27 Tg4 Lg4 Sw60
 replace Rg5_0 := Z26 Rg5_0 Lg5 Sw60
 replace Tg5 := Z27 Tg5 Lg5 Sw60
 replace Rg6_0 := Z26 Rg6_0 Lg6 Sw60
 replace Tg6 := Z27 Tg6 Lg6 Sw60
 replace Rg10_0 := Z26 Rg10_0 Lg10 Sw60
 replace Tg10 := Z27 Tg10 Lg10 Sw60
 replace Lg3 := Z1 Lg3 Sw60.2.2.size
 replace Lg4 := Z1 Lg4 Sw60.2.2.size
 replace Lg5 := Z1 Lg5 Sw60.2.2.size
 replace Lg6 := Z1 Lg6 Sw60.2.2.size
 replace Lg10 := Z1 Lg10 Sw60.2.2.size
 replace BE := BE.trans (Sw60.2.2.mono BE.size)
 refine lAs (v := .int .u64 (((((limbN x i) * (limbN y k) % 18446744073709551616 + limbN M (i + k)) % 18446744073709551616 + c) % 18446744073709551616 : Nat) : Int)) ?_
 refine lAs (v := .int .u64 (((((limbN x i) * (limbN y k) % 18446744073709551616 + limbN M (i + k)) % 18446744073709551616 + c) / 18446744073709551616 : Nat) : Int)) ?_
 simp only [Z0, Z6]
 refine lNp (hK58 _ _ ?_)
 refine Z30 10 (by kernel_rfl) (fun Lk hLk => ?_)
 simp only [Z7, Z8]
 refine vMv (v := .int .i64 i) ?_
 simp only [Z0, Z6]
 refine vMv (v := .int .i64 k) ?_
 simp only [Z0, Z6]
 refine vBn (v := .int .i64 (i + k : Nat)) (hr := fun W => run_add (by simp only [IntKind.wrap_i64]; omega) W) ?_
 simp only [Z0, Z6]
 refine vMv (v := .int .u64 (((((limbN x i) * (limbN y k) % 18446744073709551616 + limbN M (i + k)) % 18446744073709551616 + c) % 18446744073709551616 : Nat) : Int)) ?_
 simp only [Z0, Z6]
 refine vMv (v := .int .u64 ((limbN x i) * (limbN y k) / 18446744073709551616 : Nat)) ?_
 simp only [Z0, Z6]
 refine vMv (v := .int .u64 (((limbN x i) * (limbN y k) % 18446744073709551616 + limbN M (i + k)) / 18446744073709551616 : Nat)) ?_
 simp only [Z0, Z6]
 refine vBn (v := .int .u64 (limbN x i * limbN y k / 18446744073709551616 + (limbN x i * limbN y k % 18446744073709551616 + limbN M (i + k)) / 18446744073709551616 : Nat)) (hr := fun W => run_add (by have := (wide_parts HW).2; unfold wideC at this; rw [wrap_u64]; omega) W) ?_
 simp only [Z0, Z6]
 refine vMv (v := .int .u64 (((((limbN x i) * (limbN y k) % 18446744073709551616 + limbN M (i + k)) % 18446744073709551616 + c) / 18446744073709551616 : Nat) : Int)) ?_
 simp only [Z0, Z6]
 refine vBn (v := .int .u64 (wideC x y i k M c : Nat)) (hr := fun W => run_add (by have := (wide_parts HW).2; unfold wideC at this ⊢; rw [wrap_u64]; omega) W) ?_
 simp only [Z0, Z6]
 refine wpV_idx (n := i + k) (by rfl) rfl rfl rfl U9129 info40 (by omega) ?_
 simp only [Z2]
 simp only [Z0, Z6]
 refine Z19 (hLk.out _ ?_)
 simp only [Z7, Z8]
 iterate 10 refine Z28 (by rfl) ?_
 refine Z29 (fun w62 Sw62 hbs => ?_)
 clear hbs
 replace Rg3_0 := Z26 Rg3_0 Lg3 Sw62
 replace Tg3 := Z27 Tg3 Lg3 Sw62
 replace Rg4_0 := Z26 Rg4_0 Lg4 Sw62
 replace Tg4 := Z27 Tg4 Lg4 Sw62
 replace Rg5_0 := Z26 Rg5_0 Lg5 Sw62
 replace Tg5 := Z27 Tg5 Lg5 Sw62
 replace Rg6_0 := Z26 Rg6_0 Lg6 Sw62
 replace Tg6 := Z27 Tg6 Lg6 Sw62
 replace Rg10_0 := Z26 Rg10_0 Lg10 Sw62
 replace Tg10 := Z27 Tg10 Lg10 Sw62
 replace Lg3 := Z1 Lg3 Sw62.2.2.size
 replace Lg4 := Z1 Lg4 Sw62.2.2.size
 replace Lg5 := Z1 Lg5 Sw62.2.2.size
 replace Lg6 := Z1 Lg6 Sw62.2.2.size
 replace Lg10 := Z1 Lg10 Sw62.2.2.size
 replace BE := BE.trans (Sw62.2.2.mono BE.size)
 refine lS1 (g := g10) (off := i + k) (n := 8) (v := .int .u64 (((((limbN x i) * (limbN y k) % 18446744073709551616 + limbN M (i + k)) % 18446744073709551616 + c) % 18446744073709551616 : Nat) : Int)) Tg10 (by omega) info40 rfl (fun w63 Pw63 RR TT => ?_)
 replace Rg3_0 := Pw63.range Rg3_0 (.inl Ng3_g10)
 replace Tg3 := Pw63.other_there Tg3 Ng3_g10
 replace Rg4_0 := Pw63.range Rg4_0 (.inl Ng4_g10)
 replace Tg4 := Pw63.other_there Tg4 Ng4_g10
 replace Rg5_0 := Pw63.range Rg5_0 (.inl Ng5_g10)
 replace Tg5 := Pw63.other_there Tg5 Ng5_g10
 replace Rg6_0 := Pw63.range Rg6_0 (.inl Ng6_g10)
 replace Tg6 := Pw63.other_there Tg6 Ng6_g10
 replace Rg10_0 := range_set Rg10_0 Pw63 RR
 clear RR
 replace Tg10 := TT
 replace Lg3 := Pw63.lt Lg3
 replace Lg4 := Pw63.lt Lg4
 replace Lg5 := Pw63.lt Lg5
 replace Lg6 := Pw63.lt Lg6
 replace Lg10 := Pw63.lt Lg10
 replace BE := Pw63.below BE Gg10
 rw [show ((((limbN x i) * (limbN y k) % 18446744073709551616 + limbN M (i + k)) % 18446744073709551616 + c) % 18446744073709551616) = wideLo x y i k M c from rfl, wl_set (wideM_eq x y i k M c) (wideLo_lt x y i k M c)] at Rg10_0
 refine lAs (v := .int .u64 (wideC x y i k M c : Nat)) ?_
 simp only [Z0, Z6]
 refine lNp (hK48 _ _ ?_)
 refine Z30 2 (by kernel_rfl) (fun Lk hLk => ?_)
 simp only [Z7, Z8]
 refine vBn (v := .int .i64 (k + 1 : Nat)) (hr := fun W => run_add (by simp only [IntKind.wrap_i64]; omega) W) ?_
 simp only [Z0, Z6]
 refine vMv (v := .int .i64 (k + 1 : Nat)) ?_
 simp only [Z0, Z6]
 refine Z19 (hLk.out _ ?_)
 simp only [Z7, Z8]
 iterate 2 refine Z28 (by rfl) ?_
 refine Z29 (fun w65 Sw65 hbs => ?_)
 clear hbs
 replace Rg3_0 := Z26 Rg3_0 Lg3 Sw65
 replace Tg3 := Z27 Tg3 Lg3 Sw65
 replace Rg4_0 := Z26 Rg4_0 Lg4 Sw65
 replace Tg4 := Z27 Tg4 Lg4 Sw65
 replace Rg5_0 := Z26 Rg5_0 Lg5 Sw65
 replace Tg5 := Z27 Tg5 Lg5 Sw65
 replace Rg6_0 := Z26 Rg6_0 Lg6 Sw65
 replace Tg6 := Z27 Tg6 Lg6 Sw65
 replace Rg10_0 := Z26 Rg10_0 Lg10 Sw65
 replace Tg10 := Z27 Tg10 Lg10 Sw65
 replace Lg3 := Z1 Lg3 Sw65.2.2.size
 replace Lg4 := Z1 Lg4 Sw65.2.2.size
 replace Lg5 := Z1 Lg5 Sw65.2.2.size
 replace Lg6 := Z1 Lg6 Sw65.2.2.size
 replace Lg10 := Z1 Lg10 Sw65.2.2.size
 replace BE := BE.trans (Sw65.2.2.mono BE.size)
 refine Z14 (Z15 ?_)
 refine Exists.intro _ ⟨?_, (k + 1), (wideM x y i k M c), (wideC x y i k M c), (fun q9 => (#[Z9, Z9, Z9, Z9, Z9, Z9, Z9, Z9, Z9, Z9, .int .i64 k, .int .u64 (limbN y k : Nat), .int .u64 ((limbN x i) * (limbN y k) / 18446744073709551616 : Nat), .int .u64 ((limbN x i) * (limbN y k) % 18446744073709551616 : Nat), .int .u64 (((limbN x i) * (limbN y k) % 18446744073709551616 + limbN M (i + k)) % 18446744073709551616 : Nat), .int .u64 (((limbN x i) * (limbN y k) % 18446744073709551616 + limbN M (i + k)) / 18446744073709551616 : Nat), .int .u64 (((((limbN x i) * (limbN y k) % 18446744073709551616 + limbN M (i + k)) % 18446744073709551616 + c) % 18446744073709551616 : Nat) : Int), .int .u64 (((((limbN x i) * (limbN y k) % 18446744073709551616 + limbN M (i + k)) % 18446744073709551616 + c) / 18446744073709551616 : Nat) : Int), Z9, Z9, Z9, Z9, Z9, Z9, Z9, .bool true, .int .i64 k, .int .u64 (limbN y k : Nat), .tuple #[.int .u64 ((limbN x i) * (limbN y k) / 18446744073709551616 : Nat), .int .u64 ((limbN x i) * (limbN y k) % 18446744073709551616 : Nat)], .int .u64 (limbN x i : Nat), .int .u64 (limbN y k : Nat), .tuple #[.int .u64 ((limbN x i) * (limbN y k) / 18446744073709551616 : Nat), .int .u64 ((limbN x i) * (limbN y k) % 18446744073709551616 : Nat)], .int .u64 ((limbN x i) * (limbN y k) / 18446744073709551616 : Nat), .int .u64 ((limbN x i) * (limbN y k) % 18446744073709551616 : Nat), .tuple #[.int .u64 (((limbN x i) * (limbN y k) % 18446744073709551616 + limbN M (i + k)) % 18446744073709551616 : Nat), .int .u64 (((limbN x i) * (limbN y k) % 18446744073709551616 + limbN M (i + k)) / 18446744073709551616 : Nat)], .int .u64 ((limbN x i) * (limbN y k) % 18446744073709551616 : Nat), .int .i64 i, .int .i64 k, .int .i64 (i + k : Nat), .pointer (some ⟨g10, i + k, none⟩), .int .u64 (limbN M (i + k) : Nat), .tuple #[.int .u64 (((limbN x i) * (limbN y k) % 18446744073709551616 + limbN M (i + k)) % 18446744073709551616 : Nat), .int .u64 (((limbN x i) * (limbN y k) % 18446744073709551616 + limbN M (i + k)) / 18446744073709551616 : Nat)], .int .u64 (((limbN x i) * (limbN y k) % 18446744073709551616 + limbN M (i + k)) % 18446744073709551616 : Nat), .int .u64 (((limbN x i) * (limbN y k) % 18446744073709551616 + limbN M (i + k)) / 18446744073709551616 : Nat), .tuple #[.int .u64 (((((limbN x i) * (limbN y k) % 18446744073709551616 + limbN M (i + k)) % 18446744073709551616 + c) % 18446744073709551616 : Nat) : Int), .int .u64 (((((limbN x i) * (limbN y k) % 18446744073709551616 + limbN M (i + k)) % 18446744073709551616 + c) / 18446744073709551616 : Nat) : Int)], .int .u64 (((limbN x i) * (limbN y k) % 18446744073709551616 + limbN M (i + k)) % 18446744073709551616 : Nat), .int .u64 c, .tuple #[.int .u64 (((((limbN x i) * (limbN y k) % 18446744073709551616 + limbN M (i + k)) % 18446744073709551616 + c) % 18446744073709551616 : Nat) : Int), .int .u64 (((((limbN x i) * (limbN y k) % 18446744073709551616 + limbN M (i + k)) % 18446744073709551616 + c) / 18446744073709551616 : Nat) : Int)], .int .u64 (((((limbN x i) * (limbN y k) % 18446744073709551616 + limbN M (i + k)) % 18446744073709551616 + c) % 18446744073709551616 : Nat) : Int), .int .u64 (((((limbN x i) * (limbN y k) % 18446744073709551616 + limbN M (i + k)) % 18446744073709551616 + c) / 18446744073709551616 : Nat) : Int), .int .i64 i, .int .i64 k, .int .i64 (i + k : Nat), .int .u64 (((((limbN x i) * (limbN y k) % 18446744073709551616 + limbN M (i + k)) % 18446744073709551616 + c) % 18446744073709551616 : Nat) : Int), .int .u64 ((limbN x i) * (limbN y k) / 18446744073709551616 : Nat), .int .u64 (((limbN x i) * (limbN y k) % 18446744073709551616 + limbN M (i + k)) / 18446744073709551616 : Nat), .int .u64 (limbN x i * limbN y k / 18446744073709551616 + (limbN x i * limbN y k % 18446744073709551616 + limbN M (i + k)) / 18446744073709551616 : Nat), .int .u64 (((((limbN x i) * (limbN y k) % 18446744073709551616 + limbN M (i + k)) % 18446744073709551616 + c) / 18446744073709551616 : Nat) : Int), .int .u64 (wideC x y i k M c : Nat), .pointer (some ⟨g10, i + k, none⟩), .int .i64 (k + 1 : Nat)] : Array Value).getD q9 Z9), rfl, rfl, BE, Rg3_0, Tg3, Lg3, Rg4_0, Tg4, Lg4, Rg5_0, Tg5, Lg5, Rg6_0, Tg6, Lg6, Rg10_0, Tg10, Lg10, (by omega), (wide_step hk HW)⟩
 omega
end Go.Proofs.Ya

