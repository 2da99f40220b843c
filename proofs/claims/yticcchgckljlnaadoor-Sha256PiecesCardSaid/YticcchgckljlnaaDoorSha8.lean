/- A sum that goes on in pieces. -/
import Derived.Test.YticcchgckljlnaaDoorSha7
import Derived.Test.YticcchgckljlnaaDoorSteps9
set_option linter.unusedSimpArgs false
set_option linter.unusedVariables false
namespace Go.Proofs.Num
open Go
abbrev stX (m : List UInt8) (a : Nat) : SX := ⟨takeH H0 (m.take a), takeR (m.take a), a⟩
theorem stX_ok (m : List UInt8) {a : Nat} (h : a ≤ 2000) : (stX m a).Ok := ⟨takeH_ok _ _ _ (Nat.le_refl _) H0_ok, Nat.le_trans (Nat.le_of_lt (takeR_len _)) (by decide), Nat.lt_of_le_of_lt h (by decide)⟩
theorem stX_right {m : List UInt8} {a : Nat} (h : a ≤ m.length) (h2 : m.length ≤ 2000) : rightX (stX m a) = true := by
  unfold rightX
  have h1 := takeR_len (m.take a)
  have h3 := takeR_mod (m.take a)
  rw [List.length_take, Nat.min_eq_left h] at h3
  simp only [Bool.and_eq_true, decide_eq_true_eq]
  exact ⟨h1, by omega, h3.symm⟩
theorem st_step {m : List UInt8} {a b : Nat} (hab : a ≤ b) (hb : b ≤ m.length) (h2 : m.length ≤ 2000) : writeX (stX m a) ((m.take b).drop a) = stX m b ∧ writeE (stX m a) ((m.take b).drop a) = 0 := by
  have hl : ((m.take b).drop a).length = b - a := by rw [List.length_drop, List.length_take]; omega
  have ho : overX (stX m a) ((m.take b).drop a) = false := decide_eq_false (by
    rw [hl]
    show ¬ _ < a
    omega)
  obtain ⟨e1, e2⟩ := writeX_go (stX_right (Nat.le_trans hab hb) h2) ho
  rw [e1, e2]
  have hj : m.take a ++ (m.take b).drop a = m.take b := by
    have h3 : (m.take b).take a = m.take a := by rw [List.take_take, Nat.min_eq_left hab]
    rw [← h3, List.take_append_drop]
  refine ⟨?_, rfl⟩
  show (⟨takeH (takeH H0 (m.take a)) (takeR (m.take a) ++ (m.take b).drop a), takeR (takeR (m.take a) ++ (m.take b).drop a), (a + ((m.take b).drop a).length) % 18446744073709551616⟩ : SX) = _
  rw [← takeH_append, ← takeR_append, hj, hl]
  congr 1
  omega
theorem st_zero (m : List UInt8) : newX = stX m 0 := by
  show newX = (⟨takeH H0 [], takeR [], 0⟩ : SX)
  rw [take_zero.1, take_zero.2]
theorem st_step0 {m : List UInt8} {b : Nat} (hb : b ≤ m.length) (h2 : m.length ≤ 2000) : writeX newX ((m.take b).drop 0) = stX m b ∧ writeE newX ((m.take b).drop 0) = 0 := by
  rw [st_zero m]
  exact st_step (Nat.zero_le _) hb h2
theorem st_end {m : List UInt8} (h2 : m.length ≤ 2000) : endT (stX m m.length) = sha m ∧ endE (stX m m.length) = 0 := by
  obtain ⟨e1, e2⟩ := endT_yes (stX_right (Nat.le_refl m.length) h2)
  rw [e1, e2]
  refine ⟨?_, rfl⟩
  show endL (takeH H0 (m.take m.length)) (takeR (m.take m.length)) m.length = sha m
  unfold sha
  rw [List.take_length, Nat.mod_eq_of_lt (by omega)]
theorem mem_flat_le {s : List UInt8} : ∀ {ps : List (List UInt8)}, s ∈ ps → s.length ≤ ps.flatten.length
  | [], h => by cases h
  | p :: ps, h => by
    rw [List.flatten_cons, List.length_append]
    rcases List.mem_cons.1 h with e | e
    · rw [e]; omega
    · have := mem_flat_le e; omega
theorem flat_le {ps : List (List UInt8)} (k : Nat) : (ps.getD k []).length ≤ ps.flatten.length := by
  rw [List.getD_eq_getElem?_getD]
  by_cases h : k < ps.length
  · rw [List.getElem?_eq_getElem h]
    exact mem_flat_le (List.getElem_mem h)
  · rw [List.getElem?_eq_none (by omega)]
    exact Nat.zero_le _
theorem flat_snoc (ps : List (List UInt8)) {m : List UInt8} {a b : Nat} (hab : a ≤ b) (h : ps.flatten = m.take a) : (ps ++ [(m.take b).drop a]).flatten = m.take b := by
  rw [List.flatten_append, h]
  have h3 : (m.take b).take a = m.take a := by rw [List.take_take, Nat.min_eq_left hab]
  rw [← h3]
  simp [List.take_append_drop]
end Go.Proofs.Num
