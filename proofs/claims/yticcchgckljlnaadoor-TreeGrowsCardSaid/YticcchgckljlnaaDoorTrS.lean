/- Rows that are carried, cut; the sum of the parts of leaves. -/
import Derived.Test.YticcchgckljlnaaDoorTrR
set_option linter.unusedSimpArgs false
set_option linter.unusedVariables false
namespace Go.Proofs.Num
open Go Go.RowKit
section
variable {G : List Nat} {w w0 W : World} {a : Option Addr} {n c : Nat} {cs : List Value}
theorem RowN.cap (h : RowN G w a n c cs) : n ≤ c := h.row.cap
theorem slA_block {a : Option Addr} {lo c g o : Nat} (h : slA a lo c = some ⟨g, o, none⟩) : ∃ o', a = some ⟨g, o', none⟩ ∨ ∃ p, a = some p ∧ p.block = g := by
  unfold slA at h
  split at h
  · exact ⟨o, .inl h⟩
  · cases a with
    | none => cases h
    | some p =>
      refine ⟨0, .inr ⟨p, rfl, ?_⟩⟩
      have h1 : p.add lo = ⟨g, o, none⟩ := Option.some.inj h
      have h2 := congrArg Addr.block h1
      cases lo <;> exact h2
theorem RowN.of_row {a' : Option Addr} {n' c' : Nat} {cs' : List Value} (h : RowN G w a n c cs) (h' : RowA w a' n' c' cs') (h0 : cs = [] → cs' = []) (hb : ∀ g o, a' = some ⟨g, o, none⟩ → ∃ p, a = some p ∧ p.block = g) : RowN G w a' n' c' cs' :=
  ⟨h', by
    rcases h.far with e | hf
    · exact .inl (h0 e)
    · rcases h.row.mem with e | ⟨g1, o1, e1, _, _⟩
      · exact .inl (h0 e)
      · refine .inr fun g o e hg => ?_
        obtain ⟨p, hp, hpg⟩ := hb g o e
        rw [e1] at hp
        obtain rfl := Option.some.inj hp
        exact hf g1 o1 e1 (by
          have e9 : g1 = g := hpg
          rw [e9]; exact hg)⟩
theorem slA_src {a : Option Addr} {lo c : Nat} : ∀ g o, slA a lo c = some ⟨g, o, none⟩ → ∃ p, a = some p ∧ p.block = g := fun g o h => by
  obtain ⟨o', h1 | h1⟩ := slA_block h
  · exact ⟨_, h1, rfl⟩
  · exact h1
theorem RowN.drop (h : RowN G w a n c cs) {lo : Nat} (h1 : lo ≤ n) : RowN G w (slA a lo c) (n - lo) (c - lo) (cs.drop lo) :=
  h.of_row (h.row.drop h1) (fun e => by rw [e]; simp) slA_src
theorem RowN.take (h : RowN G w a n c cs) {hi : Nat} (h2 : hi ≤ n) : RowN G w a hi c (cs.take hi) :=
  h.of_row (h.row.take h2) (fun e => by rw [e]; simp) (fun g o e => ⟨_, e, rfl⟩)
end
end Go.Proofs.Num

