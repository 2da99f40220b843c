/- What is read of texts, and written. -/
import Derived.Test.YticdlngpljdhkaaNumL
import Derived.Test.YticdlngpljdhkaaNumG
set_option linter.unusedSimpArgs false
set_option linter.unusedVariables false
namespace Go.Proofs.Num
def swideN (l : List UInt8) : Nat := if 64 < l.length then 0 else restS (leN l)
def swideE (l : List UInt8) : Int := if 64 < l.length then 1 else 0
theorem swideN_lt (l : List UInt8) : swideN l < 2 ^ 256 := by
  unfold swideN
  split
  · decide
  · exact restS_lt _
theorem wide_over {l : List UInt8} (h : 64 < l.length) : swideN l = 0 ∧ swideE l = 1 ∧ sparseN l = 0 ∧ sparseE l = 1 := by
  have := sp0 (l := l) (by omega)
  exact ⟨if_pos h, if_pos h, this.1, this.2⟩
theorem wide_in {l : List UInt8} (h : ¬ 64 < l.length) : swideN l = restS (leN l) ∧ swideE l = 0 := ⟨if_neg h, if_neg h⟩
theorem sp_wide {l : List UInt8} (hl : l.length = 32) (h : bytesN 32 (restS (restS (leN l))) = l) : sparseN l = swideN l ∧ sparseE l = 0 := by
  have := sp2 hl h
  exact ⟨this.1.trans (wide_in (by omega)).1.symm, this.2⟩
theorem sp_bytes (x : Nat) : sparseN (bytesN 32 (restS x)) = restS x ∧ sparseE (bytesN 32 (restS x)) = 0 := by
  have hl : (bytesN 32 (restS x)).length = 32 := bytesN_len _ _
  have h1 : leN (bytesN 32 (restS x)) = restS x := by rw [leN_bytesN, e256_32]; exact Nat.mod_eq_of_lt (restS_lt x)
  have h2 : leN (bytesN 32 (restS x)) < ordL := by rw [h1]; exact Nat.mod_lt _ (by decide)
  exact ⟨(if_pos ⟨hl, h2⟩).trans h1, (if_pos hl).trans (if_pos h2)⟩
theorem fp_bytes (x : Nat) : fparseN (bytesN 32 (leastF x)) = leastF x ∧ fparseE (bytesN 32 (leastF x)) = 0 := by
  have hl : (bytesN 32 (leastF x)).length = 32 := bytesN_len _ _
  have h1 : leN (bytesN 32 (leastF x)) = leastF x := by rw [leN_bytesN, e256_32]; exact Nat.mod_eq_of_lt (leastF_lt x)
  have h2 : leN (bytesN 32 (leastF x)) < pF := by rw [h1]; exact Nat.mod_lt _ (by decide)
  exact ⟨(if_pos ⟨hl, h2⟩).trans h1, (if_pos hl).trans (if_pos h2)⟩
theorem sp_no {l : List UInt8} (h : sparseE l ≠ 0) : sparseN l = 0 := by
  unfold sparseE at h
  unfold sparseN
  split at h
  · split at h
    · exact absurd rfl h
    · rename_i h2
      exact if_neg fun h3 => h2 h3.2
  · rename_i h1
    exact if_neg fun h3 => h1 h3.1
theorem sp_yes {l : List UInt8} (h : sparseE l = 0) : bytesN 32 (restS (sparseN l)) = l := by
  unfold sparseE at h
  split at h
  · rename_i h1
    split at h
    · rename_i h2
      have : sparseN l = leN l := if_pos ⟨h1, h2⟩
      rw [this, restS_id h2, bytesN_eq h1 (by rw [e256_32]; exact leN_256 h1)]
    · cases h
  · cases h
theorem fp_yes {l : List UInt8} (hl : l.length = 32) (h : leN l < pF) : fparseE l = 0 ∧ fparseN l = leN l ∧ bytesN 32 (leastF (fparseN l)) = l := by
  have h1 : fparseN l = leN l := if_pos ⟨hl, h⟩
  have h2 : leastF (leN l) = leN l := fp_iff.2 h
  refine ⟨?_, h1, ?_⟩
  · simp [fparseE, hl, h]
  · rw [h1, h2, bytesN_eq hl (by rw [e256_32]; exact leN_256 hl)]
theorem fp_no {l : List UInt8} (hl : l.length = 32) (h : ¬ leN l < pF) : fparseE l = 2 ∧ fparseN l = 0 := by
  have := fp1 hl (fun e => h (fp_iff.1 e))
  exact ⟨this.2, this.1⟩
/-- So many times 256. -/
def spow (k : Nat) : Nat := 256 ^ k % ordL
theorem spow_lt (k : Nat) : spow k < 2 ^ 256 := restS_lt _
theorem spow_step (k : Nat) : smul (spow k) 256 = spow (k + 1) := by unfold smul spow; rw [gm_mull, Nat.pow_succ]
theorem spow_zero : spow 0 = 1 := rfl
theorem wide_join (l m : List UInt8) : restS (leN (l ++ m)) = sadd (restS (leN l)) (smul (restS (leN m)) (spow l.length)) := by
  unfold restS sadd smul spow
  rw [leN_append, gm_addl, gm_addr, ← gm_addr (leN l), ← gm_addr (leN l) (leN m % ordL * _), gm_mull, gm_mulr, Nat.mul_comm]
end Go.Proofs.Num
