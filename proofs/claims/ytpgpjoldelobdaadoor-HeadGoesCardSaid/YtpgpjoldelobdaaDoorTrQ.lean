/- Trees that go on, plainly. -/
import Derived.Test.YtpgpjoldelobdaaDoorShq
import Derived.Test.YtpgpjoldelobdaaDoorEqS
set_option linter.unusedSimpArgs false
set_option linter.unusedVariables false
namespace Go.Proofs.Num
open Go Go.RowKit
/-- How many bits are 1. -/
def ones (n : Nat) : Nat := if _h : n = 0 then 0 else n % 2 + ones (n / 2)
termination_by n
decreasing_by omega
theorem and_i64 {m n : Nat} (hm : m < 9223372036854775808) (hn : n < 9223372036854775808) : bits .and .i64 ((m : Nat) : Int) ((n : Nat) : Int) = ((m &&& n : Nat) : Int) := by
 have h1 : (BitVec.ofInt 64 (m : Int)).toNat = m := by
  rw [BitVec.ofInt_natCast, BitVec.toNat_ofNat]; exact Nat.mod_eq_of_lt (by omega)
 have h2 : (BitVec.ofInt 64 (n : Int)).toNat = n := by
  rw [BitVec.ofInt_natCast, BitVec.toNat_ofNat]; exact Nat.mod_eq_of_lt (by omega)
 have h : m &&& n ≤ n := Nat.and_le_right
 show IntKind.wrap .i64 ((BitVec.ofInt 64 (m : Int) &&& BitVec.ofInt 64 (n : Int)).toNat : Int) = _
 rw [BitVec.toNat_and, h1, h2]
 simp only [IntKind.wrap_i64]
 omega
theorem and_oneN (n : Nat) : n &&& 1 = n % 2 := Nat.and_one_is_mod n
end Go.Proofs.Num

namespace Go.Proofs.Num
open Go Go.RowKit
structure RowN (G : List Nat) (w : World) (a : Option Addr) (n c : Nat) (cs : List Value) : Prop where
 row : RowA w a n c cs
 far : cs = [] ∨ ∀ g o, a = some ⟨g, o, none⟩ → g ∉ G
section
variable {G : List Nat} {w w0 W : World} {a : Option Addr} {n c : Nat} {cs : List Value} {l : List Bk}
theorem RowN.eq {cs' : List Value} (h : RowN G w a n c cs) (e : cs = cs') : RowN G w a n c cs' := e ▸ h
theorem RowN.mem (h : RowN G w0 a n c cs) (M : Mem G w0 w l) : RowN G w a n c cs :=
 ⟨⟨h.row.len, h.row.cap, h.row.no, by
  rcases h.row.mem with e | ⟨g, o, h1, h2, h3⟩
  ·
   exact .inl e
  ·
   rcases h.far with e | hf
   ·
    exact .inl e
   ·
    exact .inr ⟨g, o, h1, M.oldL h2, M.oldG h3 h2 (hf g o h1)⟩⟩, h.far⟩
end
end Go.Proofs.Num

