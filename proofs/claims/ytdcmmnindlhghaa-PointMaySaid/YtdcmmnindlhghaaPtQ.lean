import Derived.WalkKit
import Derived.WalkSpells
import Derived.Laws.Pointers
import Derived.RowKit3
import Derived.Below
import Derived.Outline
import Derived.LoopN
import Derived.Lib.Hide
import Derived.Handy
import Derived.Laws.Bits64b
import Derived.Test.YtdcmmnindlhghaaPtF
set_option linter.unusedSimpArgs false
set_option linter.unusedVariables false
namespace Go.Proofs.Yc
open Go Go.RowKit Go.Proofs.Num
open List renaming set → Z0, take → Z1, drop → Z2
open Go renaming undef → Z3, wp_seq_k → Z4, wp_cond_true → Z5, wp_cond_false → Z6
open Go.Proofs.Num renaming putT → Z7, wp_region_seq → Z8, wpL_nil → Z9, no_panic → Z10, wpL_chunk → Z11, wpL_move → Z12, wpL_assign → Z13, wpV_nil → Z14, wpV_bin → Z15, wpV_move → Z16, wpL_store1 → Z18
attribute [local irreducible] wpV wpN wpList
open Go.Proofs.Ya
/-- The digits from k on. -/
def hiE (x k : Nat) : Nat := x / 65536 ^ k * 65536 ^ k
theorem hiE_zero (x : Nat) : hiE x 0 = x := by unfold hiE; rw [Nat.pow_zero, Nat.div_one, Nat.mul_one]
theorem hiE_top {x n : Nat} (h : x < 65536 ^ n) : hiE x n = 0 := by unfold hiE; rw [Nat.div_eq_of_lt h, Nat.zero_mul]
theorem dig_lo {x k i : Nat} (h : i < k) : digN (hiE x k) i = 0 := by
 unfold digN hiE
 have e : 65536 ^ k = 65536 * 65536 ^ (k - i - 1) * 65536 ^ i := by rw [← Nat.pow_succ', ← Nat.pow_add, show k - i - 1 + 1 + i = k by omega]
 rw [e, ← Nat.mul_assoc, Nat.mul_div_cancel _ (Nat.pow_pos (by decide)), Nat.mul_left_comm, Nat.mul_mod_right]
theorem dig_hi {x k i : Nat} (h : k ≤ i) : digN (hiE x k) i = digN x i := by
 unfold digN hiE
 have e : 65536 ^ i = 65536 ^ k * 65536 ^ (i - k) := by rw [← Nat.pow_add, show k + (i - k) = i by omega]
 rw [e, ← Nat.div_div_eq_div_mul, Nat.mul_div_cancel _ (Nat.pow_pos (by decide)), ← Nat.div_div_eq_div_mul]
theorem next_q (m j : Nat) : m / 65536 ^ j = 65536 * (m / 65536 ^ (j + 1)) + digN m j := by
 unfold digN
 rw [Nat.pow_succ, ← Nat.div_div_eq_div_mul]
 omega
theorem dig_8 (m j : Nat) : digN (m / 8) j = (65536 * (m / 65536 ^ (j + 1) % 8) + digN m j) / 8 := by
 have h := next_q m j
 have hd := digN_lt m j
 show m / 8 / 65536 ^ j % 65536 = _
 rw [Nat.div_div_eq_div_mul, Nat.mul_comm 8, ← Nat.div_div_eq_div_mul, h]
 omega
theorem rest_8 (m j : Nat) : (65536 * (m / 65536 ^ (j + 1) % 8) + digN m j) % 8 = m / 65536 ^ j % 8 := by
 rw [next_q m j]
 omega
theorem put_8 {n m j : Nat} : (dl n (hiE (m / 8) (j + 1))).set j (.int .i64 (((65536 * (m / 65536 ^ (j + 1) % 8) + digN m j) / 8 : Nat) : Int)) = dl n (hiE (m / 8) j) :=
 dl_put (fun i hi _ => by
  rcases Nat.lt_or_ge i j with h | h
  ·
   rw [dig_lo h, dig_lo (by omega)]
  ·
   rw [dig_hi h, dig_hi (by omega)]) (by rw [dig_hi (Nat.le_refl _)]; exact dig_8 m j)
set_option maxHeartbeats 2000000 in
theorem eighth_c {m n : Nat} {ad : Option Addr} {cd : Nat} {w : World} (hn : n ≤ 64) (hm : m < 65536 ^ n) (Hd : RowA w ad n cd (dl n m)) :
  Calls Try.prog 88 #[.slice ad n cd] w fun e w' => ∃ v, e = .returned v ∧ MemRow w n (dl n (m / 8)) v w' ∧ Below w.heap.size w w' := by
 go_enter Try.func88, Try.ntmps88
 have M := Mem.start w
 refine Z4 (fun K1 hK1 => ?_)
 refine Z8 ?_
 refine Z13 (v := (.slice none 0 0)) (by rfl) (by rfl) (by rfl) ?_
 simp only [Z7,Z0]
 refine Z9 (Z10 ?_)
 refine hK1 _ _ ?_
 refine Z4 (fun K3 hK3 => ?_)
 refine Z8 ?_
 refine Z12 (v := .slice ad n cd) (by rfl) (by rfl) (by rfl) ?_
 simp only [Z7,Z0]
 refine Z11 1 (by rfl) (fun Lk hLk => ?_)
 simp only [Z1,Z2]
 refine wpV_lenA (n := n) (by rfl) rfl rfl rfl Try.underlying100 ?_
 simp only [Z7,Z0]
 refine Z14 (hLk _ (fun w5 Sw5 => ?_))
 clear hLk Lk
 simp only [Z1,Z2]
 replace M := M.sees Sw5
 refine wpL_make (n := n) (z := .int .i64 0) (bytes := 8) (by rfl) (by rfl) (by rfl) (by rfl) Try.underlying100 (by kernel_rfl) rfl (by omega) (by omega) (fun g6 w7 Sw7 Hg6 Bg6 => ?_)
 replace M := ((M.sees Sw7).add (N := n) (cs := List.replicate n (.int .i64 0)) (M.ge Hg6) (M.fresh Hg6) Bg6 (by simp [flen]))
 clear Bg6
 simp only [Z7,Z0]
 refine Z13 (v := .slice (some ⟨g6, 0, none⟩) n n) (by rfl) (by rfl) (by rfl) ?_
 simp only [Z7,Z0]
 refine Z9 (Z10 ?_)
 refine hK3 _ _ ?_
 refine Z4 (fun K8 hK8 => ?_)
 refine Z8 ?_
 refine Z13 (v := .int .i64 0) (by rfl) (by rfl) (by rfl) ?_
 simp only [Z7,Z0]
 refine Z9 (Z10 ?_)
 refine hK8 _ _ ?_
 refine Z4 (fun K10 hK10 => ?_)
 refine Z4 (fun K11 hK11 => ?_)
 refine Z8 ?_
 refine Z12 (v := .slice ad n cd) (by rfl) (by rfl) (by rfl) ?_
 simp only [Z7,Z0]
 refine Z11 2 (by rfl) (fun Lk hLk => ?_)
 simp only [Z1,Z2]
 refine wpV_lenA (n := n) (by rfl) rfl rfl rfl Try.underlying100 ?_
 simp only [Z7,Z0]
 refine Z15 (v := .int .i64 (((n : Nat) : Int) - 1)) (by rfl) rfl rfl rfl (fun W => run_sub (by simp only [IntKind.wrap_i64]; omega) W) ?_
 simp only [Z7,Z0]
 refine Z14 (hLk _ (fun w13 Sw13 => ?_))
 clear hLk Lk
 simp only [Z1,Z2]
 replace M := M.sees Sw13
 refine Z13 (v := .int .i64 (((n : Nat) : Int) - 1)) (by rfl) (by rfl) (by rfl) ?_
 simp only [Z7,Z0]
 refine Z9 (Z10 ?_)
 refine hK11 _ _ ?_
 refine wp_block ?_
 replace M := M.read1 (cs := dl n (hiE (m / 8) n)) 0 rfl (by rw [hiE_top (Nat.lt_of_le_of_lt (Nat.div_le_self ..) hm), dl_zero]; exact (M.r 0 0 rfl rfl))
 simp only [Z0] at M
 refine wp_loop_ghost (fun n9 a9 W9 => ∃ (k : Nat) (r : Nat) (u14 : Nat → Value), n9 = 2 * k ∧ a9 = { tmps := #[.slice ad n cd, Z3, (.slice none 0 0), .slice (some ⟨g6, 0, none⟩) n n, .int .i64 ((r : Nat) : Int), .int .i64 (((k : Nat) : Int) - 1), u14 6, .slice ad n cd, .int .i64 ((n : Nat) : Int), .slice (some ⟨g6, 0, none⟩) n n, .slice ad n cd, .int .i64 ((n : Nat) : Int), .int .i64 (((n : Nat) : Int) - 1), u14 13, u14 14, u14 15, u14 16, u14 17, u14 18, u14 19, u14 20, u14 21, u14 22, u14 23, u14 24, u14 25, u14 26, u14 27, u14 28, u14 29, u14 30, Z3], defers := [] } ∧ Mem [] w W9 [⟨g6, n, [(0, dl n (hiE (m / 8) k))]⟩] ∧ (k ≤ n) ∧ (r = m / 65536 ^ k % 8)) (2 * (n)) ?_ (fun n9 a9 W9 hI => ?_)
 ·
  exact ⟨n, 0, (fun q9 => (#[Z3, Z3, Z3, Z3, Z3, Z3, Z3, Z3, Z3, Z3, Z3, Z3, Z3, Z3, Z3, Z3, Z3, Z3, Z3, Z3, Z3, Z3, Z3, Z3, Z3, Z3, Z3, Z3, Z3, Z3, Z3] : Array Value).getD q9 Z3), rfl, rfl, M, (Nat.le_refl _), (by rw [Nat.div_eq_of_lt hm])⟩
 clear M
 obtain ⟨k, r, u14, rfl, rfl, M, hk4, hr⟩ := hI
 obtain ⟨w15, rfl⟩ : ∃ W8, W8 = W9 := ⟨_, rfl⟩
 refine Z4 (fun K16 hK16 => ?_)
 refine Z4 (fun K17 hK17 => ?_)
 refine Z8 ?_
 refine Z12 (v := .int .i64 (((k : Nat) : Int) - 1)) (by rfl) (by rfl) (by rfl) ?_
 simp only [Z7,Z0]
 refine Z11 1 (by rfl) (fun Lk hLk => ?_)
 simp only [Z1,Z2]
 refine Z15 (v := .bool (decide (0 ≤ ((k : Nat) : Int) - 1))) (by rfl) rfl rfl rfl (fun W => run_geq _ _ _ _ W) ?_
 simp only [Z7,Z0]
 refine Z14 (hLk _ (fun w19 Sw19 => ?_))
 clear hLk Lk
 simp only [Z1,Z2]
 replace M := M.sees Sw19
 refine Z9 (Z10 ?_)
 refine hK17 _ _ ?_
 cases hc20 : (decide (0 ≤ ((k : Nat) : Int) - 1))
 ·
  obtain rfl : k = 0 := by have := of_decide_eq_false hc20; omega
  refine Z6 rfl ?_
  refine wp_exit ?_
  refine hK10 _ _ ?_
  refine Z4 (fun K21 hK21 => ?_)
  refine Z8 ?_
  refine Z12 (v := .slice (some ⟨g6, 0, none⟩) n n) (by rfl) (by rfl) (by rfl) ?_
  simp only [Z7,Z0]
  refine Z13 (v := .slice (some ⟨g6, 0, none⟩) n n) (by rfl) (by rfl) (by rfl) ?_
  simp only [Z7,Z0]
  refine Z9 (Z10 ?_)
  refine hK21 _ _ ?_
  refine wp_ret ?_
  repeat (first | with_reducible refine then_ret ?_ | with_reducible refine inblock_ret ?_)
  refine bodyPost_ret (v := .slice (some ⟨g6, 0, none⟩) n n) (res1 rfl (.tmp (by rfl))) rfl ?_
  have BE := M.below
  rw [hiE_zero] at M
  exact ⟨_, rfl, ⟨g6, n, rfl, (Nat.le_refl _), M.pick [0] (by decide) rfl⟩, BE⟩
 ·
  obtain ⟨j, rfl⟩ : ∃ j, k = j + 1 := ⟨k - 1, by have := of_decide_eq_true hc20; omega⟩
  rw [show (((j + 1 : Nat) : Int) - 1) = ((j : Nat) : Int) by omega]
  subst hr
  refine Z5 rfl ?_
  refine wp_skip ?_
  refine hK16 _ _ ?_
  refine Z4 (fun K23 hK23 => ?_)
  refine wp_block ?_
  refine Z4 (fun K24 hK24 => ?_)
  refine Z8 ?_
  refine Z12 (v := .int .i64 (((m / 65536 ^ (j + 1) % 8) : Nat) : Int)) (by rfl) (by rfl) (by rfl) ?_
  simp only [Z7,Z0]
  refine Z11 6 (by rfl) (fun Lk hLk => ?_)
  simp only [Z1,Z2]
  refine Z15 (v := .int .i64 ((65536 * (m / 65536 ^ (j + 1) % 8) : Nat) : Int)) (by rfl) rfl rfl rfl (fun W => run_mul (by have h9 := Nat.mod_lt (m / 65536 ^ (j + 1)) (show 8 > 0 by decide); generalize m / 65536 ^ (j + 1) % 8 = q9 at h9 ⊢; simp only [IntKind.wrap_i64]; omega) W) ?_
  simp only [Z7,Z0]
  refine Z16 (v := .slice ad n cd) (by rfl) rfl rfl ?_
  simp only [Z7,Z0]
  refine Z16 (v := .int .i64 ((j : Nat) : Int)) (by rfl) rfl rfl ?_
  simp only [Z7,Z0]
  refine wpV_idxA (i := j) (by rfl) rfl rfl rfl Try.underlying100 info3 (M.oldA Hd) (by omega) ?_
  simp only [Z7,Z0]
  refine wpV_loadA (i := j) (v := .int .i64 ((digN m j : Nat) : Int)) (by rfl) rfl rfl (M.oldA Hd) (dl_get n m (by omega)) Try.underlying3 rfl ?_
  simp only [Z7,Z0]
  refine Z15 (v := .int .i64 ((65536 * (m / 65536 ^ (j + 1) % 8) + digN m j : Nat) : Int)) (by rfl) rfl rfl rfl (fun W => run_add (by have h8 := digN_lt m j; have h9 := Nat.mod_lt (m / 65536 ^ (j + 1)) (show 8 > 0 by decide); generalize m / 65536 ^ (j + 1) % 8 = q9 at h9 ⊢; simp only [IntKind.wrap_i64]; omega) W) ?_
  simp only [Z7,Z0]
  refine Z14 (hLk _ (fun w26 Sw26 => ?_))
  clear hLk Lk
  simp only [Z1,Z2]
  replace M := M.sees Sw26
  refine Z13 (v := .int .i64 ((65536 * (m / 65536 ^ (j + 1) % 8) + digN m j : Nat) : Int)) (by rfl) (by rfl) (by rfl) ?_
  simp only [Z7,Z0]
  refine Z9 (Z10 ?_)
  refine hK24 _ _ ?_
  refine Z4 (fun K27 hK27 => ?_)
  refine Z8 ?_
  refine Z12 (v := .slice (some ⟨g6, 0, none⟩) n n) (by rfl) (by rfl) (by rfl) ?_
  simp only [Z7,Z0]
  refine Z12 (v := .int .i64 ((j : Nat) : Int)) (by rfl) (by rfl) (by rfl) ?_
  simp only [Z7,Z0]
  refine Z12 (v := .int .i64 ((65536 * (m / 65536 ^ (j + 1) % 8) + digN m j : Nat) : Int)) (by rfl) (by rfl) (by rfl) ?_
  simp only [Z7,Z0]
  refine Z11 2 (by rfl) (fun Lk hLk => ?_)
  simp only [Z1,Z2]
  refine Z15 (v := .int .i64 (((65536 * (m / 65536 ^ (j + 1) % 8) + digN m j) / 8 : Nat) : Int)) (by rfl) rfl rfl rfl (fun W => run_quo (by decide) (by rw [show (8 : Int) = ((8 : Nat) : Int) from rfl, tdiv_nat]; have h8 := digN_lt m j; have h9 := Nat.mod_lt (m / 65536 ^ (j + 1)) (show 8 > 0 by decide); generalize m / 65536 ^ (j + 1) % 8 = q9 at h9 ⊢; simp only [IntKind.wrap_i64]; omega) W) ?_
  simp only [Z7,Z0]
  refine wpV_idxs (n := j) (by rfl) rfl rfl rfl Try.underlying100 info3 (by omega) ?_
  simp only [Nat.zero_add]
  simp only [Z7,Z0]
  refine Z14 (hLk _ (fun w29 Sw29 => ?_))
  clear hLk Lk
  simp only [Z1,Z2]
  replace M := M.sees Sw29
  refine Z18 (g := g6) (off := j) (n := n) (v := .int .i64 (((65536 * (m / 65536 ^ (j + 1) % 8) + digN m j) / 8 : Nat) : Int)) (by rfl) (by rfl) (by rfl) (by rfl) (by rfl) (M.t 0 rfl) (by omega) info3 rfl (fun w30 P R T => ?_)
  replace M := M.put1 (j := j) 0 rfl P R T (Nat.zero_add _).symm
  simp only [Z0] at M
  rw [put_8] at M
  refine Z9 (Z10 ?_)
  refine hK27 _ _ ?_
  refine Z8 ?_
  refine Z12 (v := .int .i64 ((65536 * (m / 65536 ^ (j + 1) % 8) + digN m j : Nat) : Int)) (by rfl) (by rfl) (by rfl) ?_
  simp only [Z7,Z0]
  refine Z11 1 (by rfl) (fun Lk hLk => ?_)
  simp only [Z1,Z2]
  refine Z15 (v := .int .i64 ((m / 65536 ^ j % 8 : Nat) : Int)) (by rfl) rfl rfl rfl (fun W => run_rem (by decide) (by exact (tmod_nat _ _).trans (congrArg _ (rest_8 m j))) W) ?_
  simp only [Z7,Z0]
  refine Z14 (hLk _ (fun w32 Sw32 => ?_))
  clear hLk Lk
  simp only [Z1,Z2]
  replace M := M.sees Sw32
  refine Z13 (v := .int .i64 ((m / 65536 ^ j % 8 : Nat) : Int)) (by rfl) (by rfl) (by rfl) ?_
  simp only [Z7,Z0]
  refine Z9 (Z10 ?_)
  refine hK23 _ _ ?_
  refine Z8 ?_
  refine Z12 (v := .int .i64 ((j : Nat) : Int)) (by rfl) (by rfl) (by rfl) ?_
  simp only [Z7,Z0]
  refine Z11 1 (by rfl) (fun Lk hLk => ?_)
  simp only [Z1,Z2]
  refine Z15 (v := .int .i64 (((j : Nat) : Int) - 1)) (by rfl) rfl rfl rfl (fun W => run_sub (by simp only [IntKind.wrap_i64]; omega) W) ?_
  simp only [Z7,Z0]
  refine Z14 (hLk _ (fun w34 Sw34 => ?_))
  clear hLk Lk
  simp only [Z1,Z2]
  replace M := M.sees Sw34
  refine Z13 (v := .int .i64 (((j : Nat) : Int) - 1)) (by rfl) (by rfl) (by rfl) ?_
  simp only [Z7,Z0]
  refine Z9 (Z10 ?_)
  refine Exists.intro _ ⟨?_, j, (m / 65536 ^ j % 8), (fun q9 => (#[Z3, Z3, Z3, Z3, Z3, Z3, .int .i64 ((65536 * (m / 65536 ^ (j + 1) % 8) + digN m j : Nat) : Int), Z3, Z3, Z3, Z3, Z3, Z3, .int .i64 ((j : Nat) : Int), .bool true, .int .i64 ((j : Nat) : Int), .int .i64 (((j : Nat) : Int) - 1), .int .i64 (((m / 65536 ^ (j + 1) % 8) : Nat) : Int), .int .i64 ((65536 * (m / 65536 ^ (j + 1) % 8) : Nat) : Int), .slice ad n cd, .int .i64 ((j : Nat) : Int), .pointer (ad.map (·.add j)), .int .i64 ((digN m j : Nat) : Int), .int .i64 ((65536 * (m / 65536 ^ (j + 1) % 8) + digN m j : Nat) : Int), .slice (some ⟨g6, 0, none⟩) n n, .int .i64 ((j : Nat) : Int), .int .i64 ((65536 * (m / 65536 ^ (j + 1) % 8) + digN m j : Nat) : Int), .int .i64 (((65536 * (m / 65536 ^ (j + 1) % 8) + digN m j) / 8 : Nat) : Int), .pointer (some ⟨g6, j, none⟩), .int .i64 ((65536 * (m / 65536 ^ (j + 1) % 8) + digN m j : Nat) : Int), .int .i64 ((m / 65536 ^ j % 8 : Nat) : Int)] : Array Value).getD q9 Z3), rfl, rfl, M, (by omega), rfl⟩
  omega
end Go.Proofs.Yc

