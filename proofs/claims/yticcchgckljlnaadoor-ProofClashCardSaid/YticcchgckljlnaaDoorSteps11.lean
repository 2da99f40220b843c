/- A call that changes some blocks, beside others. -/
import Derived.Test.YticcchgckljlnaaDoorSteps10
set_option linter.unusedSimpArgs false
set_option linter.unusedVariables false
namespace Go.Proofs.Num
open Go Go.RowKit
section
variable {G : List Nat} {w w0 W : World} {l1 l2 l' : List Bk}
theorem Mem.frame (h : Mem G w0 w (l1 ++ l2)) (h' : Mem (l1.map (·.g)) w W l') : Mem G w0 W (l' ++ l2) := by
  have hp := List.pairwise_append.1 h.far
  have hown : ∀ x ∈ l1.map (·.g), w0.heap.size ≤ x ∨ x ∈ G := fun x hx => by
    obtain ⟨b, hb, rfl⟩ := List.mem_map.1 hx
    exact (h.ok b (List.mem_append_left _ hb)).own
  have hn2 : ∀ c ∈ l2, c.g ∉ l1.map (·.g) := fun c hc hm => by
    obtain ⟨b, hb, hbg⟩ := List.mem_map.1 hm
    exact hp.2.2 b hb c hc hbg
  refine ⟨h'.os.trans h.os, h'.tape.trans h.tape, h'.output.trans h.output, Nat.le_trans h.size h'.size, fun k hk hG => ?_, fun b hb => ?_, ?_⟩
  · refine (h'.old k (Nat.lt_of_lt_of_le hk h.size) fun e => ?_).trans (h.old k hk hG)
    rcases hown k e with ho | ho
    · omega
    · exact hG ho
  · rcases List.mem_append.1 hb with e | e
    · have := h'.ok b e
      refine ⟨this.there, this.range, this.lt, ?_⟩
      rcases this.own with ho | ho
      · exact .inl (Nat.le_trans h.size ho)
      · exact hown _ ho
    · have hc := h.ok b (List.mem_append_right _ e)
      have hh := h'.old b.g hc.lt (hn2 b e)
      exact ⟨fun j hj => by rw [World.cell?_of_block (w := w) hh, World.frozen?_of_block (w := w) hh]; exact hc.there j hj, fun s hs j v hv => by rw [World.cell?_of_block (w := w) hh]; exact hc.range s hs j v hv, Nat.lt_of_lt_of_le hc.lt h'.size, hc.own⟩
  · refine List.pairwise_append.2 ⟨h'.far, hp.2.1, fun a ha b hb => ?_⟩
    have hbl := (h.ok b (List.mem_append_right _ hb)).lt
    rcases (h'.ok a ha).own with ho | ho
    · omega
    · intro e
      exact hn2 b hb (e ▸ ho)
/-- Some blocks alone. -/
theorem Mem.some {G : List Nat} {l : List Bk} (h : Mem G w0 w l) (ks : List Nat) (hn : ks.Nodup) (hl : ks.map (fun k => l[k]?) = l'.map Option.some) : Mem (l'.map (·.g)) w w l' := (h.pick ks hn hl).again
end
end Go.Proofs.Num

