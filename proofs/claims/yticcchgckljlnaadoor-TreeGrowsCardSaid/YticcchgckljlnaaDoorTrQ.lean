/- Rows that stand apart from what a method writes. -/
import Derived.Test.YticcchgckljlnaaDoorTrP
set_option linter.unusedSimpArgs false
set_option linter.unusedVariables false
namespace Go.Proofs.Num
open Go Go.RowKit
structure RowN (G : List Nat) (w : World) (a : Option Addr) (n c : Nat) (cs : List Value) : Prop where
  row : RowA w a n c cs
  far : cs = [] ∨ ∀ g o, a = some ⟨g, o, none⟩ → g ∉ G
section
variable {G : List Nat} {w w0 W : World} {a : Option Addr} {n c : Nat} {cs : List Value} {l : List Bk}
theorem RowN.eq {cs' : List Value} (h : RowN G w a n c cs) (e : cs = cs') : RowN G w a n c cs' := e ▸ h
theorem RowN.mem (h : RowN G w0 a n c cs) (M : Mem G w0 w l) : RowN G w a n c cs :=
  ⟨⟨h.row.len, h.row.cap, h.row.no, by
    rcases h.row.mem with e | ⟨g, o, h1, h2, h3⟩
    · exact .inl e
    · rcases h.far with e | hf
      · exact .inl e
      · exact .inr ⟨g, o, h1, M.oldL h2, M.oldG h3 h2 (hf g o h1)⟩⟩, h.far⟩
theorem RowN.takeM (h : RowN G w a n c cs) {hi m : Nat} (h2 : hi ≤ n) (h3 : hi ≤ m) (h4 : m ≤ c) : RowN G w a hi m (cs.take hi) :=
  ⟨h.row.takeM h2 h3 h4, h.far.imp (fun e => by rw [e]; simp) id⟩
theorem Mem.notin {b : Bk} (M : Mem [] w0 w l) (k : Nat) (hk : l[k]? = some b) (h : RowA w0 a n c cs) : RowN [b.g] w a n c cs :=
  ⟨M.oldA h, by
    rcases h.mem with e | ⟨g, o, h1, h2, _⟩
    · exact .inl e
    · refine .inr fun g' o' e hg => ?_
      rw [h1] at e
      obtain rfl : g = g' := by simpa using congrArg (fun q => q.map (·.block)) e
      rw [List.mem_singleton.1 hg] at h2
      rcases (M.ok b (mem_of hk)).own with ho | ho
      · omega
      · cases ho⟩
theorem Mem.rowN {G : List Nat} {b b' : Bk} {s : Nat × List Value} (M : Mem G w0 w l) (k j k' : Nat) (hk : l[k]? = some b) (hj : b.segs[j]? = some s) (hk' : l[k']? = some b') (hne : k ≠ k') (hn : n = s.2.length) (hc : n ≤ c) : RowN [b'.g] w (some ⟨b.g, s.1, none⟩) n c s.2 :=
  ⟨M.rowA k j hk hj hn hc, .inr fun g' o' e hg => by
    obtain rfl : b.g = g' := by simpa using congrArg (fun q => q.map (·.block)) e
    exact far_of M.far hk' hk hne (List.mem_singleton.1 hg)⟩
end
end Go.Proofs.Num

