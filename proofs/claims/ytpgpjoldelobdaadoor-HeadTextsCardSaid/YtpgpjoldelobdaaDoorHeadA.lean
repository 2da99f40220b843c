/- Heads, plainly: which may be, what is signed, the text. -/
import Derived.Test.YtpgpjoldelobdaaDoorOctA
import Derived.Test.YtpgpjoldelobdaaDoorSteps13
import Derived.Test.YtpgpjoldelobdaaDoorShq
set_option linter.unusedSimpArgs false
set_option linter.unusedVariables false
namespace Go.Proofs.Num
open Go Go.RowKit
def rightH (z : Int) (r : List UInt8) (t : Int) (g : List UInt8) : Bool := decide (0 ≤ z) && decide (z ≤ 4096) && decide (0 ≤ t) && decide (t ≤ 1099511627776) && decide (r.length = 32) && decide (g.length = 64)
theorem rightH_parts {z t : Int} {r g : List UInt8} (h : rightH z r t g = true) : ∃ a b : Nat, z = (a : Int) ∧ t = (b : Int) ∧ a ≤ 4096 ∧ b ≤ 1099511627776 ∧ r.length = 32 ∧ g.length = 64 := by
 unfold rightH at h
 simp only [Bool.and_eq_true, decide_eq_true_eq] at h
 obtain ⟨⟨⟨⟨⟨h1, h2⟩, h3⟩, h4⟩, h5⟩, h6⟩ := h
 exact ⟨z.toNat, t.toNat, by omega, by omega, by omega, by omega, h5, h6⟩
theorem rightH_of {a b : Nat} {r g : List UInt8} (ha : a ≤ 4096) (hb : b ≤ 1099511627776) (hr : r.length = 32) (hg : g.length = 64) : rightH (a : Int) r (b : Int) g = true := by
 unfold rightH
 simp only [Bool.and_eq_true, decide_eq_true_eq]
 exact ⟨⟨⟨⟨⟨by omega, by omega⟩, by omega⟩, by omega⟩, hr⟩, hg⟩
def headL : List UInt8 := [104, 101, 97, 100]
/-- What is signed. -/
def sgnL (a b : Nat) (r : List UInt8) : List UInt8 := packL [headL, beL 8 a, beL 8 b, r]
theorem sgnL_len (a b : Nat) {r : List UInt8} (h : r.length = 32) : (sgnL a b r).length = 68 := by
 unfold sgnL
 rw [packL_len]
 simp [packN, beL_len, headL, h]
def texL (a b : Nat) (r g : List UInt8) : List UInt8 := packL [sgnL a b r, g]
theorem texL_len (a b : Nat) {r g : List UInt8} (h : r.length = 32) (k : g.length = 64) : (texL a b r g).length = 140 := by
 unfold texL
 rw [packL_len]
 simp [packN, sgnL_len a b h, k]
theorem packN_sgn (a b : Nat) {r : List UInt8} (h : r.length = 32) : packN [headL, beL 8 a, beL 8 b, r] = 68 := by simp [packN, beL_len, headL, h]
theorem packN_tex (a b : Nat) {r g : List UInt8} (h : r.length = 32) (k : g.length = 64) : packN [sgnL a b r, g] = 140 := by simp [packN, sgnL_len a b h, k]
theorem unp_tex (a b : Nat) {r g : List UInt8} (h : r.length = 32) (k : g.length = 64) : unpL 64 (texL a b r g) = some [sgnL a b r, g] :=
 unp_pack 64 _ (by simp) (fun s hs => by
  rcases List.mem_cons.1 hs with rfl | hs
  ·
   rw [sgnL_len a b h]; decide
  ·
   rw [List.mem_singleton.1 hs, k]; decide)
theorem unp_sgn (a b : Nat) {r : List UInt8} (h : r.length = 32) : unpL 64 (sgnL a b r) = some [headL, beL 8 a, beL 8 b, r] :=
 unp_pack 64 _ (by simp) (fun s hs => by
  simp only [List.mem_cons, List.not_mem_nil, or_false] at hs
  rcases hs with rfl | rfl | rfl | rfl
  ·
   decide
  ·
   rw [beL_len]; decide
  ·
   rw [beL_len]; decide
  ·
   rw [h]; decide)
theorem num_be8 {a : Nat} (h : a < 18446744073709551616) : numN (beL 8 a) = a := numN_beL 8 a (Nat.lt_of_lt_of_eq h (by decide))
end Go.Proofs.Num

