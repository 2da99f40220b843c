/- Trees that go on, plainly: the parts of leaves are those of the greatest powers of 2, from the first on; their sum is the root. -/
import Derived.Test.YticcchgckljlnaaDoorTrP
import Derived.Test.YticcchgckljlnaaDoorTrQ
import Derived.Test.YticcchgckljlnaaDoorAdds2
set_option linter.unusedSimpArgs false
set_option linter.unusedVariables false
namespace Go.Proofs.Num
open Go Go.RowKit
/-- The greatest power of 2 that is not above. -/
def bigN (n : Nat) : Nat := 2 ^ Nat.log2 n
theorem bigN_le {n : Nat} (h : n ≠ 0) : bigN n ≤ n := Nat.log2_self_le h
theorem bigN_lt {n : Nat} : n < 2 * bigN n := by
  have := Nat.lt_log2_self (n := n)
  unfold bigN
  rw [Nat.pow_succ] at this
  omega
theorem bigN_pos (n : Nat) : 0 < bigN n := Nat.two_pow_pos _
theorem bigN_of {n j : Nat} (h1 : 2 ^ j ≤ n) (h2 : n < 2 * 2 ^ j) : bigN n = 2 ^ j := by
  have hn : n ≠ 0 := by
    have := Nat.two_pow_pos j
    omega
  unfold bigN
  congr 1
  have e1 : j ≤ Nat.log2 n := (Nat.le_log2 hn).2 h1
  have e2 : Nat.log2 n < j + 1 := (Nat.log2_lt hn).2 (by rw [Nat.pow_succ]; omega)
  omega
/-- The parts of leaves' sums. -/
def partsL (l : List (List UInt8)) : List (List UInt8) := if _h : l.length = 0 then [] else rootS (l.take (bigN l.length)) :: partsL (l.drop (bigN l.length))
termination_by l.length
decreasing_by
  have := bigN_pos l.length
  rw [List.length_drop]; omega
theorem partsL_0 : partsL [] = [] := by rw [partsL]; simp
theorem partsL_1 {l : List (List UInt8)} (h : l.length ≠ 0) : partsL l = rootS (l.take (bigN l.length)) :: partsL (l.drop (bigN l.length)) := by rw [partsL, dif_neg h]
theorem lastS_cons (x : List UInt8) {ps : List (List UInt8)} (h : 1 ≤ ps.length) : lastS (x :: ps) = lastS ps := by
  unfold lastS
  rw [List.length_cons, show ps.length + 1 - 1 = (ps.length - 1) + 1 by omega, List.getD_cons_succ]
theorem init_cons (x : List UInt8) {ps : List (List UInt8)} (h : 1 ≤ ps.length) : (x :: ps).take ((x :: ps).length - 1) = x :: ps.take (ps.length - 1) := by
  rw [List.length_cons, show ps.length + 1 - 1 = (ps.length - 1) + 1 by omega, List.take_succ_cons]
theorem ones_pow2 (k : Nat) : ones (2 ^ k) = 1 := by
  induction k with
  | zero => rw [ones_pos (by decide)]; simp [ones_zero]
  | succ k ih =>
    have := Nat.two_pow_pos k
    rw [ones_pos (by rw [Nat.pow_succ]; omega), show 2 ^ (k + 1) / 2 = 2 ^ k by rw [Nat.pow_succ]; omega, ih, show 2 ^ (k + 1) % 2 = 0 by rw [Nat.pow_succ]; omega]
/-- A leaf behind a greatest part and others: it goes behind these, or all become one. -/
theorem addP_front : ∀ (k m : Nat) (ps : List (List UInt8)) (s x : List UInt8), m < 2 ^ k → ps.length = ones m →
    (m + 1 < 2 ^ k ∧ addP (2 ^ k + m) (x :: ps) s = x :: addP m ps s) ∨ (m + 1 = 2 ^ k ∧ ∃ y, addP m ps s = [y] ∧ addP (2 ^ k + m) (x :: ps) s = [nodeS x y])
  | 0, m, ps, s, x, hm, hl => by
    obtain rfl : m = 0 := by omega
    have hps : ps = [] := List.length_eq_zero_iff.1 (hl.trans ones_zero)
    subst hps
    refine .inr ⟨rfl, s, by rw [addP_even (by decide)]; rfl, ?_⟩
    rw [show 2 ^ 0 + 0 = 1 from rfl, addP_odd (by decide), show 1 / 2 = 0 from rfl, addP_even (by decide)]
    rfl
  | k + 1, m, ps, s, x, hm, hl => by
    have hp : 2 ^ (k + 1) = 2 * 2 ^ k := by rw [Nat.pow_succ]; omega
    by_cases ho : m % 2 = 1
    · have hl1 : 1 ≤ ps.length := by rw [hl, ones_odd ho]; omega
      rw [addP_odd ho, addP_odd (n := 2 ^ (k + 1) + m) (by omega), lastS_cons x hl1, init_cons x hl1, show (2 ^ (k + 1) + m) / 2 = 2 ^ k + m / 2 by omega]
      have := addP_front k (m / 2) (ps.take (ps.length - 1)) (nodeS (lastS ps) s) x (by omega) (by rw [List.length_take, hl, ones_odd ho]; omega)
      rcases this with ⟨h1, h2⟩ | ⟨h1, h2⟩
      · exact .inl ⟨by omega, h2⟩
      · exact .inr ⟨by omega, h2⟩
    · refine .inl ⟨by omega, ?_⟩
      rw [addP_even ho, addP_even (by omega)]
      rfl
theorem ones_front {k m : Nat} : m < 2 ^ k → ones (2 ^ k + m) = 1 + ones m := by
  induction k generalizing m with
  | zero =>
    intro h
    obtain rfl : m = 0 := by omega
    rw [ones_zero]; exact ones_pow2 0
  | succ k ih =>
    intro h
    have hp : 2 ^ (k + 1) = 2 * 2 ^ k := by rw [Nat.pow_succ]; omega
    have := Nat.two_pow_pos k
    rw [ones_pos (by omega), show (2 ^ (k + 1) + m) / 2 = 2 ^ k + m / 2 by omega, ih (by omega), show (2 ^ (k + 1) + m) % 2 = m % 2 by omega]
    by_cases h0 : m = 0
    · subst h0
      rw [show 0 / 2 = 0 from rfl, ones_zero]
    · rw [ones_pos h0]; omega
theorem partsL_len : ∀ (l : List (List UInt8)), (partsL l).length = ones l.length := by
  intro l
  generalize hn : l.length = n
  induction n using Nat.strongRecOn generalizing l with
  | ind n ih =>
    by_cases h0 : l.length = 0
    · rw [List.length_eq_zero_iff.1 h0, partsL_0, ← hn, h0, ones_zero]; rfl
    · have h1 := bigN_le h0
      have h2 := bigN_lt (n := l.length)
      have h3 := bigN_pos l.length
      have hd : (l.drop (bigN l.length)).length = l.length - bigN l.length := List.length_drop
      rw [partsL_1 h0, List.length_cons, ih _ (by omega) _ hd]
      have := ones_front (k := Nat.log2 l.length) (m := l.length - bigN l.length) (by unfold bigN at *; omega)
      rw [show 2 ^ Nat.log2 l.length + (l.length - bigN l.length) = l.length by unfold bigN at *; omega] at this
      rw [← hn, this]; omega
theorem root_pow {l : List (List UInt8)} {k : Nat} (h : l.length = 2 ^ (k + 1)) : rootS l = nodeS (rootS (l.take (2 ^ k))) (rootS (l.drop (2 ^ k))) := by
  have hp : 2 ^ (k + 1) = 2 * 2 ^ k := by rw [Nat.pow_succ]; omega
  have := Nat.two_pow_pos k
  rw [rootS_2 (by omega), h, splitN_of (j := k) (by omega) (by omega)]
theorem partsL_pow {l : List (List UInt8)} {k : Nat} (h : l.length = 2 ^ k) : partsL l = [rootS l] := by
  have := Nat.two_pow_pos k
  have e : bigN l.length = l.length := by rw [bigN_of (j := k) (by omega) (by omega), h]
  rw [partsL_1 (by omega), e, List.take_length, List.drop_length, partsL_0]
theorem partsL_snoc : ∀ (l : List (List UInt8)) (s : List UInt8), partsL (l ++ [s]) = addP l.length (partsL l) s := by
  intro l
  generalize hn : l.length = n
  induction n using Nat.strongRecOn generalizing l with
  | ind n ih =>
    intro s
    by_cases h0 : l.length = 0
    · have e := List.length_eq_zero_iff.1 h0
      subst e
      rw [← hn, partsL_0]
      rw [show ([] : List (List UInt8)).length = 0 from rfl, addP_even (by decide), List.nil_append, partsL_pow (k := 0) rfl, rootS_1 rfl]
      rfl
    · have h1 := bigN_le h0
      have h2 := bigN_lt (n := l.length)
      have h3 := bigN_pos l.length
      obtain ⟨k, hk⟩ : ∃ k, k = Nat.log2 l.length := ⟨_, rfl⟩
      have hb : bigN l.length = 2 ^ k := by rw [hk]; rfl
      rw [hb] at h1 h2 h3
      obtain ⟨m, hm⟩ : ∃ m, m = l.length - 2 ^ k := ⟨_, rfl⟩
      have hd : (l.drop (2 ^ k)).length = m := by rw [List.length_drop, hm]
      have IH := ih m (by omega) (l.drop (2 ^ k)) hd s
      have hpl : (partsL (l.drop (2 ^ k))).length = ones m := by rw [partsL_len, hd]
      rw [partsL_1 h0, hb, show n = 2 ^ k + m by omega]
      rcases addP_front k m (partsL (l.drop (2 ^ k))) s (rootS (l.take (2 ^ k))) (by omega) hpl with ⟨c1, c2⟩ | ⟨c1, y, c2, c3⟩
      · rw [c2, ← IH]
        have hl' : (l ++ [s]).length = l.length + 1 := by simp
        rw [partsL_1 (by omega), hl', bigN_of (n := l.length + 1) (j := k) (by omega) (by omega), List.take_append_of_le_length (by omega), List.drop_append_of_le_length (by omega)]
      · rw [c3]
        have hl' : (l ++ [s]).length = 2 ^ (k + 1) := by rw [List.length_append, Nat.pow_succ]; simp; omega
        rw [partsL_pow hl', root_pow hl', List.take_append_of_le_length (by omega), List.drop_append_of_le_length (by omega)]
        have hl2 : (l.drop (2 ^ k) ++ [s]).length = 2 ^ k := by rw [List.length_append, hd]; simp; omega
        rw [partsL_pow hl2, c2] at IH
        rw [(List.cons.inj IH).1]
/-- THE LAW: leaves that are put behind none, one by one, make the parts. -/
theorem addsP_parts : ∀ (l : List (List UInt8)), addsP 0 [] l = partsL l := by
  intro l
  generalize hn : l.length = n
  induction n generalizing l with
  | zero => rw [List.length_eq_zero_iff.1 hn, partsL_0]; rfl
  | succ n ih =>
    have hne : l ≠ [] := fun e => by subst e; simp at hn
    have e := (List.dropLast_concat_getLast hne).symm
    have hd : l.dropLast.length = n := by rw [List.length_dropLast, hn]; rfl
    rw [e, addsP_snoc, ih _ hd, partsL_snoc, Nat.zero_add]
theorem sumP_cons (x : List UInt8) {ps : List (List UInt8)} (h : 1 ≤ ps.length) : sumP (x :: ps) = nodeS x (sumP ps) := by
  unfold sumP
  rw [lastS_cons x h, init_cons x h]
  rfl
theorem parts_pos {l : List (List UInt8)} (h : l.length ≠ 0) : 1 ≤ (partsL l).length := by rw [partsL_len]; exact ones_one_le h
/-- THE LAW: the sum of the parts is the root. -/
theorem sumP_parts : ∀ (l : List (List UInt8)), l.length ≠ 0 → sumP (partsL l) = rootS l := by
  intro l
  generalize hn : l.length = n
  induction n using Nat.strongRecOn generalizing l with
  | ind n ih =>
    intro h0
    have h1 := bigN_le (n := l.length) (by omega)
    have h2 := bigN_lt (n := l.length)
    have h3 := bigN_pos l.length
    by_cases hp : bigN l.length = l.length
    · rw [partsL_pow (k := Nat.log2 l.length) hp.symm]
      rfl
    · have hd : (l.drop (bigN l.length)).length = l.length - bigN l.length := List.length_drop
      rw [partsL_1 (by omega), sumP_cons _ (parts_pos (by omega)), ih _ (by omega) _ hd (by omega), rootS_2 (l := l) (by omega)]
      rw [splitN_of (n := l.length) (j := Nat.log2 l.length) (by unfold bigN at *; omega) (by unfold bigN at *; omega)]
      rfl
theorem partsL_append (l : List (List UInt8)) (s : List (List UInt8)) : partsL (l ++ s) = addsP l.length (partsL l) s := by
  have : ∀ (s : List (List UInt8)) (l : List (List UInt8)), partsL (l ++ s) = addsP l.length (partsL l) s := by
    intro s
    induction s with
    | nil => intro l; rw [List.append_nil]; rfl
    | cons x s ih =>
      intro l
      have := ih (l ++ [x])
      rw [List.append_assoc, List.singleton_append, partsL_snoc, List.length_append] at this
      exact this
  exact this s l
theorem partsL_32 (l : List (List UInt8)) (h : ∀ s ∈ l, s.length = 32) : ∀ s ∈ partsL l, s.length = 32 := by
  rw [← addsP_parts]
  exact addsP_32 l 0 [] (fun q hq => by cases hq) h
end Go.Proofs.Num

namespace Go.Proofs.Num
open Go Go.RowKit
section
variable {G : List Nat} {w w0 W : World} {a : Option Addr} {n c : Nat} {cs : List Value} {l l' : List Bk}
theorem Mem.again (M : Mem G w0 w l) : Mem (l.map (·.g)) w w l :=
  ⟨rfl, rfl, rfl, Nat.le_refl _, fun _ _ _ => rfl, fun b hb => ⟨(M.ok b hb).there, (M.ok b hb).range, (M.ok b hb).lt, .inr (List.mem_map.2 ⟨b, hb, rfl⟩)⟩, M.far⟩
theorem Mem.comp (h : Mem G w0 w l) (h' : Mem (l.map (·.g)) w W l') : Mem G w0 W l' := by
  have hown : ∀ x ∈ l.map (·.g), w0.heap.size ≤ x ∨ x ∈ G := fun x hx => by
    obtain ⟨b, hb, rfl⟩ := List.mem_map.1 hx
    exact (h.ok b hb).own
  refine ⟨h'.os.trans h.os, h'.tape.trans h.tape, h'.output.trans h.output, Nat.le_trans h.size h'.size, fun k hk hn => ?_, fun b hb => ?_, h'.far⟩
  · have hk' : k ∉ l.map (·.g) := fun hm => by
      rcases hown k hm with e | e
      · omega
      · exact hn e
    exact (h'.old k (Nat.lt_of_lt_of_le hk h.size) hk').trans (h.old k hk hn)
  · refine ⟨(h'.ok b hb).there, (h'.ok b hb).range, (h'.ok b hb).lt, ?_⟩
    rcases (h'.ok b hb).own with e | e
    · exact .inl (Nat.le_trans h.size e)
    · exact hown _ e
theorem Mem.oldN (M : Mem G w0 w l) (h : RowN G w0 a n c cs) : RowA w a n c cs := (h.mem M).row
theorem RowA.n0 (h : RowA w a n c cs) : RowN [] w a n c cs := ⟨h, .inr fun _ _ _ => (by simp)⟩
theorem RowN.nil : RowN G w none 0 0 [] := ⟨RowA.nil, .inl rfl⟩
theorem RowN.sub {G' : List Nat} (h : RowN G w a n c cs) (hs : ∀ x ∈ G', x ∈ G) : RowN G' w a n c cs := ⟨h.row, h.far.imp id fun hf g o e hg => hf g o e (hs _ hg)⟩
theorem RowN.sees (h : RowN G w a n c cs) (hS : Sees w W) : RowN G W a n c cs := ⟨h.row.sees hS, h.far⟩
/-- A row that was there lies apart from all that may be written. -/
theorem Mem.notinsG (M : Mem G w0 w l) (h : RowN G w0 a n c cs) : RowN (l.map (·.g)) w a n c cs :=
  ⟨M.oldN h, by
    rcases h.row.mem with e | ⟨g, o, h1, h2, _⟩
    · exact .inl e
    · rcases h.far with e | hf
      · exact .inl e
      · refine .inr fun g' o' e hg => ?_
        rw [h1] at e
        obtain rfl : g = g' := by simpa using congrArg (fun q => q.map (·.block)) e
        obtain ⟨b, hb, hbg⟩ := List.mem_map.1 hg
        subst hbg
        rcases (M.ok b hb).own with ho | ho
        · omega
        · exact hf _ o h1 ho⟩
theorem Mem.notins (M : Mem [] w0 w l) (h : RowA w0 a n c cs) : RowN (l.map (·.g)) w a n c cs := M.notinsG h.n0
theorem Mem.oldNe {g : Nat} (M : Mem G w0 w l) (hl : g < w0.heap.size) (hG : g ∉ G) : g ∉ l.map (·.g) := fun hg => by
  obtain ⟨b, hb, rfl⟩ := List.mem_map.1 hg
  rcases (M.ok b hb).own with ho | ho
  · omega
  · exact hG ho
theorem far_erase {k : Nat} {b : Bk} (hf : l.Pairwise (fun a b => a.g ≠ b.g)) (hk : l[k]? = some b) : b.g ∉ (l.eraseIdx k).map (·.g) := fun hg => by
  obtain ⟨x, hx, hxg⟩ := List.mem_map.1 hg
  obtain ⟨j, hj⟩ := List.getElem?_of_mem hx
  rw [List.getElem?_eraseIdx] at hj
  split at hj
  · exact far_of hf hk hj (by omega) hxg
  · exact far_of hf hk hj (by omega) hxg
/-- A row of a block that may be written lies apart from the other ones. -/
theorem Mem.rowNs {b : Bk} {s : Nat × List Value} (M : Mem G w0 w l) (k j : Nat) (hk : l[k]? = some b) (hj : b.segs[j]? = some s) (hn : n = s.2.length) (hc : n ≤ c) : RowN ((l.eraseIdx k).map (·.g)) w (some ⟨b.g, s.1, none⟩) n c s.2 :=
  ⟨M.rowA k j hk hj hn hc, .inr fun g' o' e hg => by
    obtain rfl : b.g = g' := by simpa using congrArg (fun q => q.map (·.block)) e
    exact far_erase M.far hk hg⟩
end
end Go.Proofs.Num

