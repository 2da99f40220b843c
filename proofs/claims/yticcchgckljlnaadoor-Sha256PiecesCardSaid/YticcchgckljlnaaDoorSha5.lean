/- Sums that go on, plainly. -/
import Derived.Test.YticcchgckljlnaaDoorSha
import Derived.Test.YticcchgckljlnaaDoorSteps8
set_option linter.unusedSimpArgs false
set_option linter.unusedVariables false
namespace Go.Proofs.Num
open Go
structure SX where
  h : S8
  b : List UInt8
  n : Nat
structure SX.Ok (x : SX) : Prop where
  h : x.h.Ok
  b : x.b.length ≤ 9223372036854775807
  n : x.n < 18446744073709551616
def rightX (x : SX) : Bool := decide (x.b.length < 64) && (decide (x.n ≤ 1099511627776) && decide (x.n % 64 = x.b.length))
abbrev zeroX : SX := ⟨⟨0, 0, 0, 0, 0, 0, 0, 0⟩, [], 0⟩
abbrev goX (x : SX) (l : List UInt8) : SX := ⟨takeH x.h (x.b ++ l), takeR (x.b ++ l), (x.n + l.length) % 18446744073709551616⟩
def overX (x : SX) (l : List UInt8) : Bool := decide (1099511627776 - l.length < x.n)
def writeX (x : SX) (l : List UInt8) : SX := if rightX x = true then if overX x l = true then zeroX else goX x l else zeroX
def writeE (x : SX) (l : List UInt8) : Int := if rightX x = true then if overX x l = true then 2 else 0 else 1
def endT (x : SX) : List UInt8 := if rightX x = true then endL x.h x.b x.n else []
def endE (x : SX) : Int := if rightX x = true then 0 else 1
theorem writeX_no {x : SX} (l : List UInt8) (h : rightX x = false) : writeX x l = zeroX ∧ writeE x l = 1 := by simp [writeX, writeE, h]
theorem writeX_over {x : SX} {l : List UInt8} (h : rightX x = true) (h2 : overX x l = true) : writeX x l = zeroX ∧ writeE x l = 2 := by simp [writeX, writeE, h, h2]
theorem writeX_go {x : SX} {l : List UInt8} (h : rightX x = true) (h2 : overX x l = false) : writeX x l = goX x l ∧ writeE x l = 0 := by simp [writeX, writeE, h, h2]
theorem endT_no {x : SX} (h : rightX x = false) : endT x = [] ∧ endE x = 1 := by simp [endT, endE, h]
theorem endT_yes {x : SX} (h : rightX x = true) : endT x = endL x.h x.b x.n ∧ endE x = 0 := by simp [endT, endE, h]
theorem right_open {x : SX} (h : rightX x = true) : x.b.length < 64 ∧ x.n ≤ 1099511627776 ∧ x.n % 64 = x.b.length := by
  simpa [rightX] using h
instance : DecidableEq S8 := fun v u => decidable_of_iff (v.a = u.a ∧ v.b = u.b ∧ v.c = u.c ∧ v.d = u.d ∧ v.e = u.e ∧ v.f = u.f ∧ v.g = u.g ∧ v.h = u.h) (by
  constructor
  · intro h
    cases v; cases u
    simp_all
  · rintro rfl
    simp)
theorem abc_sum : (sha [97, 98, 99]).take 4 = [186, 120, 22, 191] := by
  have h1 : takeH H0 [97, 98, 99] = H0 := takeH_done (by decide)
  have h2 : takeR [97, 98, 99] = [97, 98, 99] := takeR_done (by decide)
  have h3 : takeH H0 ([97, 98, 99] ++ tailL 3 3) = mixS H0 ([97, 98, 99] ++ tailL 3 3) := by rw [takeH_more (by decide), takeH_done (by decide)]
  have h4 : sha [97, 98, 99] = outS (takeH H0 ([97, 98, 99] ++ tailL 3 3)) := by
    unfold sha endL
    rw [h1, h2]
    rfl
  rw [h4, h3]
  decide +kernel
/-- A sum with few bytes that wait. -/
def fewX (x : SX) (k : Nat) : SX := ⟨x.h, cut x.b k, x.n⟩
theorem fewX_ok {x : SX} (h : x.Ok) (k : Nat) (hk : k ≤ 9223372036854775807) : (fewX x k).Ok := ⟨h.h, Nat.le_trans (cut_len _ _) hk, h.n⟩
theorem s8_dec (v u : S8) : decide ([((v.a : Nat) : Int), ((v.b : Nat) : Int), ((v.c : Nat) : Int), ((v.d : Nat) : Int), ((v.e : Nat) : Int), ((v.f : Nat) : Int), ((v.g : Nat) : Int), ((v.h : Nat) : Int)] = [((u.a : Nat) : Int), ((u.b : Nat) : Int), ((u.c : Nat) : Int), ((u.d : Nat) : Int), ((u.e : Nat) : Int), ((u.f : Nat) : Int), ((u.g : Nat) : Int), ((u.h : Nat) : Int)]) = decide (v = u) := by
  rw [Bool.eq_iff_iff, decide_eq_true_eq, decide_eq_true_eq]
  constructor
  · intro h
    cases v; cases u
    simp only [List.cons.injEq, and_true] at h
    obtain ⟨h1, h2, h3, h4, h5, h6, h7, h8⟩ := h
    simp only [S8.mk.injEq]
    exact ⟨by omega, by omega, by omega, by omega, by omega, by omega, by omega, by omega⟩
  · rintro rfl; rfl
end Go.Proofs.Num
