/- Heads, plainly: which may be, what is signed, the text. -/
import Derived.Test.YtpgpjoldelobdaaDoorOctA
import Derived.Test.YtpgpjoldelobdaaDoorSteps13
import Derived.Test.YtpgpjoldelobdaaDoorShq
set_option linter.unusedSimpArgs false
set_option linter.unusedVariables false
namespace Go.Proofs.Num
open Go Go.RowKit
def rightH (z : Int) (r : List UInt8) (t : Int) (g : List UInt8) : Bool := decide (0 ≤ z) && decide (z ≤ 4096) && decide (0 ≤ t) && decide (t ≤ 1099511627776) && decide (r.length = 32) && decide (g.length = 64)
theorem rightH_parts {z t : Int} {r g : List UInt8} (h : rightH z r t g = true) : ∃ a b : Nat, z = (a : Int) ∧ t = (b : Int) ∧ a ≤ 4096 ∧ b ≤ 1099511627776 ∧ r.length = 32 ∧ g.length = 64 := by
 unfold rightH at h
 simp only [Bool.and_eq_true, decide_eq_true_eq] at h
 obtain ⟨⟨⟨⟨⟨h1, h2⟩, h3⟩, h4⟩, h5⟩, h6⟩ := h
 exact ⟨z.toNat, t.toNat, by omega, by omega, by omega, by omega, h5, h6⟩
theorem rightH_of {a b : Nat} {r g : List UInt8} (ha : a ≤ 4096) (hb : b ≤ 1099511627776) (hr : r.length = 32) (hg : g.length = 64) : rightH (a : Int) r (b : Int) g = true := by
 unfold rightH
 simp only [Bool.and_eq_true, decide_eq_true_eq]
 exact ⟨⟨⟨⟨⟨by omega, by omega⟩, by omega⟩, by omega⟩, hr⟩, hg⟩
def headL : List UInt8 := [104, 101, 97, 100]
/-- What is signed. -/
def sgnL (a b : Nat) (r : List UInt8) : List UInt8 := packL [headL, beL 8 a, beL 8 b, r]
theorem sgnL_len (a b : Nat) {r : List UInt8} (h : r.length = 32) : (sgnL a b r).length = 68 := by
 unfold sgnL
 rw [packL_len]
 simp [packN, beL_len, headL, h]
theorem packN_sgn (a b : Nat) {r : List UInt8} (h : r.length = 32) : packN [headL, beL 8 a, beL 8 b, r] = 68 := by simp [packN, beL_len, headL, h]
end Go.Proofs.Num

