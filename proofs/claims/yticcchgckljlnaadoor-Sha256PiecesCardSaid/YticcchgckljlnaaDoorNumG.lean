/- What is read of bytes; roots. -/
import Derived.Test.YticcchgckljlnaaDoorNumF
set_option linter.unusedSimpArgs false
set_option linter.unusedVariables false
namespace Go.Proofs.Num
open Go
theorem restS_restS (N : Nat) : restS (restS N) = restS N := Nat.mod_mod _ _
theorem leastF_leastF (N : Nat) : leastF (leastF N) = leastF N := Nat.mod_mod _ _
theorem e256_32 : (256 : Nat) ^ 32 = 2 ^ 256 := by decide
theorem bytesN_eq {l : List UInt8} {n y : Nat} (hl : l.length = n) (hy : y < 256 ^ n) : bytesN n y = l ↔ y = leN l := by
  constructor
  · intro h; rw [← h, leN_bytesN, Nat.mod_eq_of_lt hy]
  · intro h; subst hl; rw [h, bytesN_leN]
def sparseN (l : List UInt8) : Nat := if l.length = 32 ∧ leN l < ordL then leN l else 0
def sparseE (l : List UInt8) : Int := if l.length = 32 then (if leN l < ordL then 0 else 11) else 1
def fparseN (l : List UInt8) : Nat := if l.length = 32 ∧ leN l < pF then leN l else 0
def fparseE (l : List UInt8) : Int := if l.length = 32 then (if leN l < pF then 0 else 2) else 1
theorem sparseN_lt (l : List UInt8) : sparseN l < 2 ^ 256 := by
  unfold sparseN; split
  · exact Nat.lt_trans (by omega) ordL_lt
  · decide
theorem fparseN_lt (l : List UInt8) : fparseN l < 2 ^ 256 := by
  unfold fparseN; split
  · exact Nat.lt_trans (by omega) pF_lt
  · decide
theorem sp_iff {l : List UInt8} (hl : l.length = 32) : bytesN 32 (restS (restS (leN l))) = l ↔ leN l < ordL := by
  rw [bytesN_eq hl (by rw [e256_32]; exact restS_lt _), restS_restS]
  constructor
  · intro h; rw [← h]; exact Nat.mod_lt _ (by decide)
  · exact restS_id
theorem sp0 {l : List UInt8} (h : l.length ≠ 32) : sparseN l = 0 ∧ sparseE l = 1 := by simp [sparseN, sparseE, h]
theorem sp1 {l : List UInt8} (hl : l.length = 32) (h : bytesN 32 (restS (restS (leN l))) ≠ l) : sparseN l = 0 ∧ sparseE l = 11 := by
  rw [ne_eq, sp_iff hl] at h; simp [sparseN, sparseE, h, hl]
theorem sp2 {l : List UInt8} (hl : l.length = 32) (h : bytesN 32 (restS (restS (leN l))) = l) : sparseN l = restS (leN l) ∧ sparseE l = 0 := by
  rw [sp_iff hl] at h; simp [sparseN, sparseE, h, hl, restS_id h]
theorem leN_256 {l : List UInt8} (hl : l.length = 32) : leN l < 2 ^ 256 := by rw [← e256_32, ← hl]; exact leN_lt l
theorem fp0 {l : List UInt8} (h : l.length ≠ 32) : fparseN l = 0 ∧ fparseE l = 1 := by simp [fparseN, fparseE, h]
theorem fp_iff {l : List UInt8} : leastF (leN l) = leN l ↔ leN l < pF := ⟨fun h => by rw [← h]; exact Nat.mod_lt _ (by decide), fun h => Nat.mod_eq_of_lt h⟩
theorem fp1 {l : List UInt8} (hl : l.length = 32) (h : leastF (leN l) ≠ leN l) : fparseN l = 0 ∧ fparseE l = 2 := by
  rw [ne_eq, fp_iff] at h; simp [fparseN, fparseE, h, hl]
theorem fp2 {l : List UInt8} (hl : l.length = 32) (h : leastF (leN l) = leN l) : fparseN l = leN l ∧ fparseE l = 0 := by
  rw [fp_iff] at h; simp [fparseN, fparseE, h, hl]
theorem and_one (x : Nat) : bits .and .u64 (limb x 0) 1 = ((x % 2 : Nat) : Int) := by
  have := bitN_of x 0
  simpa [limb_eq] using this
theorem root1_lt (x : Nat) : root1 x < 2 ^ 256 := fpow_lt _ _
theorem root2_lt (x : Nat) : root2 x < 2 ^ 256 := by unfold root2; split; exact root1_lt x; exact fmul_lt _ _
theorem fsqrt_lt (x : Nat) : (fsqrt x).1 < 2 ^ 256 := by
  unfold fsqrt; split
  · simp only; split; exact fsub_lt _ _; exact root2_lt x
  · decide
theorem root2_t {x : Nat} (h : fmul (root1 x) (root1 x) = leastF x) : root2 x = root1 x := if_pos h
theorem root2_f {x : Nat} (h : ¬ fmul (root1 x) (root1 x) = leastF x) : root2 x = fmul (root1 x) (fpow 2 fourthE) := if_neg h
theorem sqrt_no {x : Nat} (h : ¬ fmul (root2 x) (root2 x) = leastF x) : fsqrt x = (0, false) := if_neg h
theorem sqrt_odd {x : Nat} (h : fmul (root2 x) (root2 x) = leastF x) (h2 : root2 x % 2 = 1) : fsqrt x = (fsub 0 (root2 x), true) := by unfold fsqrt; rw [if_pos h, if_pos h2]
theorem sqrt_even {x : Nat} (h : fmul (root2 x) (root2 x) = leastF x) (h2 : ¬ root2 x % 2 = 1) : fsqrt x = (root2 x, true) := by unfold fsqrt; rw [if_pos h, if_neg h2]
end Go.Proofs.Num
