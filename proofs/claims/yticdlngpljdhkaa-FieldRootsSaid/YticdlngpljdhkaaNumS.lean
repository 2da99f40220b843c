/- The root that the program finds. -/
import Derived.Test.YticdlngpljdhkaaNumR
set_option linter.unusedSimpArgs false
set_option linter.unusedVariables false
namespace Go.Proofs.Num
theorem fpow_add9 (x a b : Nat) : fmul (fpow x a) (fpow x b) = fpow x (a + b) := by unfold fmul fpow; rw [gm_mull, gm_mulr, Nat.pow_add]
theorem fmul_left {a b : Nat} (c : Nat) (h : a % pF = b % pF) : fmul a c = fmul b c := by unfold fmul; rw [← gm_mull, h, gm_mull]
theorem fmul_least (x y : Nat) : fmul (leastF x) y = fmul x y := gm_mull ..
theorem fmul_sq (a b : Nat) : fmul (fmul a b) (fmul a b) = fmul (fmul a a) (fmul b b) := by
  unfold fmul
  rw [gm_mull, gm_mulr, gm_mull, gm_mulr, Nat.mul_mul_mul_comm]
/-- A fourth of the way up. -/
def quart (x : Nat) : Nat := fpow x fourthE
theorem quart_lt (x : Nat) : quart x < pF := Nat.mod_lt _ pF_pos
theorem quart_sq (x : Nat) : fmul (quart x) (quart x) = chi x := by
  unfold quart
  rw [fpow_add9]
  rfl
theorem root1_sq (x : Nat) : fmul (root1 x) (root1 x) = fmul x (quart x) := by
  have e : ∀ a b : Nat, eighthE + eighthE = a → fourthE = b → a = b + 1 → fmul (root1 x) (root1 x) = fmul x (quart x) := by
    intro a b h1 h2 h3
    unfold root1 quart
    rw [fpow_add9, h1, h2, h3]
    unfold fpow leastF fmul
    rw [pow_gm, Nat.pow_succ', gm_mulr]
  exact e _ _ rfl rfl (by decide)
theorem neg_sq : fmul (pF - 1) (pF - 1) = 1 := by decide
theorem fmul_one' (x : Nat) : fmul 1 x = leastF x := by rw [fmul_comm, fmul_one]
theorem fmul_cancel {y a b : Nat} (hy : leastF y ≠ 0) (ha : a < pF) (hb : b < pF) (h : fmul y a = fmul y b) : a = b := by
  have h1 : fmul (finv y) (fmul y a) = a := by
    rw [← fmul_assoc, fmul_comm (finv y), fmul_inv hy, fmul_one', leastF_of_lt ha]
  have h2 : fmul (finv y) (fmul y b) = b := by
    rw [← fmul_assoc, fmul_comm (finv y), fmul_inv hy, fmul_one', leastF_of_lt hb]
  rw [← h1, h, h2]
theorem two_quart : fmul (fpow 2 fourthE) (fpow 2 fourthE) = pF - 1 := (quart_sq 2).trans two_chi
theorem fmul_neg (y : Nat) (q : Nat) : fmul (fmul y q) (pF - 1) = fmul y (fmul q (pF - 1)) := fmul_assoc ..
theorem root2_yes {y : Nat} (hy : leastF y ≠ 0) (hc : chi y = 1) : fmul (root2 y) (root2 y) = leastF y := by
  unfold root2
  split
  · assumption
  · rename_i hne
    rw [fmul_sq, two_quart, root1_sq, fmul_neg]
    rcases sq_one (quart_lt y) ((quart_sq y).trans hc) with h | h
    · rw [root1_sq, h, fmul_one] at hne
      exact absurd rfl hne
    · rw [h, neg_sq, fmul_one]
theorem root2_no {y : Nat} (hy : leastF y ≠ 0) (hc : chi y = pF - 1) : fmul (root2 y) (root2 y) ≠ leastF y := by
  have hq1 : quart y ≠ 1 := fun h => by
    have := quart_sq y
    rw [h, hc] at this
    revert this
    decide
  have hq2 : quart y ≠ pF - 1 := fun h => by
    have := quart_sq y
    rw [h, hc] at this
    revert this
    decide
  unfold root2
  split
  · rename_i h
    rw [root1_sq, ← fmul_one y] at h
    exact absurd (fmul_cancel hy (quart_lt y) (by decide) h) hq1
  · rename_i hne
    rw [fmul_sq, two_quart, root1_sq, fmul_neg, ← fmul_one y]
    intro h
    have h3 := fmul_cancel hy (fmul_ltp ..) (by decide) h
    rw [← neg_sq, fmul_comm] at h3
    exact hq2 (fmul_cancel (y := pF - 1) (by decide) (quart_lt y) (by decide) h3)
theorem root2_ltp (x : Nat) : root2 x < pF := by
  unfold root2
  split
  · exact Nat.mod_lt _ pF_pos
  · exact fmul_ltp ..
theorem fsqrt_chi {y : Nat} (hy : leastF y ≠ 0) : (fsqrt y).2 = decide (chi y = 1) := by
  rcases chi_or hy with h | h
  · have h1 := root2_yes hy h
    unfold fsqrt
    rw [if_pos h1, h]
    rfl
  · have h1 := root2_no hy h
    unfold fsqrt
    rw [if_neg h1, h]
    decide
theorem neg_mul {r : Nat} (hr : r < pF) : fmul (fsub 0 r) (fsub 0 r) = fmul r r := by
  have h0 : fadd (fsub 0 r) r = 0 := by
    unfold fadd fsub
    rw [gm_addl, Nat.mod_eq_of_lt hr, Nat.zero_add, show pF - r + r = pF by omega, Nat.mod_self]
  have h1 : fadd (fmul (fsub 0 r) (fsub 0 r)) (fmul (fsub 0 r) r) = 0 := by
    rw [← fmul_add, h0]
    rfl
  have h2 : fadd (fmul r (fsub 0 r)) (fmul r r) = 0 := by
    rw [← fmul_add, h0]
    rfl
  rw [fmul_comm r (fsub 0 r), fadd_comm] at h2
  have e := h1.trans h2.symm
  have := congrArg (fun z => fsub z (fmul (fsub 0 r) r)) e
  simp only [fsub_add] at this
  rw [leastF_of_lt (fmul_ltp ..), leastF_of_lt (fmul_ltp ..)] at this
  exact this
theorem fsqrt_even (y : Nat) : (fsqrt y).1 % 2 = 0 := by
  unfold fsqrt
  split
  · show (if root2 y % 2 = 1 then fsub 0 (root2 y) else root2 y) % 2 = 0
    split
    · rename_i h
      have hr := root2_ltp y
      unfold fsub
      have h9 : pF - root2 y < pF := by have := pF_pos; omega
      rw [Nat.mod_eq_of_lt hr, Nat.zero_add, Nat.mod_eq_of_lt h9]
      have : pF % 2 = 1 := by decide
      omega
    · omega
  · rfl
theorem fsqrt_sq {y : Nat} (h : (fsqrt y).2 = true) : fmul (fsqrt y).1 (fsqrt y).1 = leastF y := by
  unfold fsqrt at *
  split at h
  · rename_i h1
    rw [if_pos h1]
    show fmul (if root2 y % 2 = 1 then fsub 0 (root2 y) else root2 y) (if root2 y % 2 = 1 then fsub 0 (root2 y) else root2 y) = leastF y
    split
    · rw [neg_mul (root2_ltp y), h1]
    · exact h1
  · cases h
theorem fsqrt_none {y : Nat} (h : (fsqrt y).2 = false) : (fsqrt y).1 = 0 := by
  unfold fsqrt at *
  split at h
  · cases h
  · rename_i h1
    rw [if_neg h1]
theorem fsqrt_ltp (y : Nat) : (fsqrt y).1 < pF := by
  unfold fsqrt
  split
  · show (if root2 y % 2 = 1 then fsub 0 (root2 y) else root2 y) < pF
    split
    · exact fsub_ltp ..
    · exact root2_ltp y
  · exact pF_pos
theorem chi_sq {x : Nat} (h : leastF x ≠ 0) : chi (fmul x x) = 1 := by
  rw [chi_mul]
  rcases chi_or h with h | h
  · rw [h]; decide
  · rw [h]; decide
theorem leastF_sq {x : Nat} (h : leastF x ≠ 0) : leastF (fmul x x) ≠ 0 := by
  rw [leastF_of_lt (fmul_ltp ..)]
  intro h2
  rcases fmul_zero h2 with h3 | h3 <;> exact h h3
theorem fpow_base0 {n : Nat} (h : n ≠ 0) : fpow 0 n = 0 := by
  unfold fpow
  rw [Nat.zero_pow (Nat.pos_of_ne_zero h)]
  rfl
theorem root1_zero : root1 0 = 0 := by
  unfold root1
  rw [show leastF 0 = 0 from rfl]
  exact fpow_base0 (by decide)
theorem root2_zero : root2 0 = 0 := by
  have h : fmul (root1 0) (root1 0) = leastF 0 := by rw [root1_zero]; rfl
  unfold root2
  rw [if_pos h, root1_zero]
theorem sqrt_zero_eq : fsqrt 0 = (0, true) := by
  have h : fmul (root2 0) (root2 0) = leastF 0 := by rw [root2_zero]; rfl
  refine (sqrt_even h ?_).trans ?_
  · rw [root2_zero]; decide
  · rw [root2_zero]
theorem root_sq (x : Nat) : (fsqrt (fmul (leastF x) (leastF x))).2 = true := by
  by_cases h : leastF x = 0
  · rw [h]
    show (fsqrt 0).2 = true
    rw [sqrt_zero_eq]
  · have h1 : leastF (leastF x) ≠ 0 := by rw [leastF_least]; exact h
    rw [fsqrt_chi (leastF_sq h1), chi_sq h1]
    rfl
theorem root_contrary {x : Nat} (h : (fsqrt (fmul (leastF x) (leastF x))).1 ≠ leastF x) : fadd (fsqrt (fmul (leastF x) (leastF x))).1 (leastF x) = 0 := by
  have h1 := fsqrt_sq (root_sq x)
  have h2 := fsqrt_ltp (fmul (leastF x) (leastF x))
  generalize (fsqrt (fmul (leastF x) (leastF x))).1 = r at *
  have hx := leastF_ltp x
  generalize leastF x = y at *
  rw [leastF_of_lt (fmul_ltp ..)] at h1
  have h3 : fmul (fsub r y) (fadd r y) = 0 := by
    have a1 : fadd (fsub r y) y = r := by
      unfold fadd fsub
      rw [gm_addl, Nat.mod_eq_of_lt hx, show r + (pF - y) + y = r + pF by omega, Nat.add_mod_right, Nat.mod_eq_of_lt h2]
    have a2 : fadd (fmul (fsub r y) (fadd r y)) (fmul y (fadd r y)) = fmul r (fadd r y) := by
      rw [fmul_comm _ (fadd r y), fmul_comm y, ← fmul_add, a1, fmul_comm]
    rw [fmul_add r, fmul_add y, h1, fmul_comm y r, fadd_comm (fmul r y)] at a2
    have := congrArg (fun z => fsub z (fadd (fmul y y) (fmul r y))) a2
    simp only [fsub_add] at this
    rw [leastF_of_lt (fmul_ltp ..), fsub_self] at this
    exact this
  rcases fmul_zero h3 with h4 | h4
  · exfalso
    apply h
    rw [Nat.mod_eq_of_lt (fsub_ltp ..)] at h4
    unfold fsub at h4
    rw [Nat.mod_eq_of_lt hx] at h4
    rcases Nat.lt_or_ge (r + (pF - y)) pF with h5 | h5
    · rw [Nat.mod_eq_of_lt h5] at h4
      omega
    · rw [Nat.mod_eq_sub_mod h5, Nat.mod_eq_of_lt (by omega)] at h4
      omega
  · rwa [Nat.mod_eq_of_lt (fadd_ltp ..)] at h4
theorem dbl_zero {x : Nat} (hx : leastF x ≠ 0) : leastF (fadd (leastF x) (leastF x)) ≠ 0 := by
  rw [leastF_of_lt (fadd_ltp ..)]
  intro h
  have e : fadd (leastF x) (leastF x) = fmul 2 (leastF x) := by unfold fadd fmul; rw [Nat.two_mul]
  rw [e] at h
  rcases fmul_zero h with h | h
  · revert h
    decide
  · exact hx (by rw [← leastF_least]; exact h)
theorem root_one {x : Nat} (hx : leastF x ≠ 0) : (fsqrt (fadd (leastF x) (leastF x))).2 = !(fsqrt (leastF x)).2 := by
  have h1 : leastF (leastF x) ≠ 0 := by rw [leastF_least]; exact hx
  rw [fsqrt_chi (dbl_zero hx), fsqrt_chi h1, chi_dbl]
  rcases chi_or h1 with h | h
  · rw [h]; decide
  · rw [h]; decide
theorem limb_even {x : Nat} (h : x % 2 = 0) : (limb x 0).tmod 2 = 0 := by
  rw [limb_eq]
  unfold limbN
  rw [Nat.mul_zero, Nat.pow_zero, Nat.div_one]
  show ((x % 18446744073709551616 % 2 : Nat) : Int) = 0
  omega
end Go.Proofs.Num
