/- Digits of bytes, plainly. -/
import Derived.Test.YtpgpjoldelobdaaDoorEdL
import Derived.Lib.Bytealg
import Derived.Test.YtpgpjoldelobdaaDoorSteps13
set_option linter.unusedSimpArgs false
set_option linter.unusedVariables false
namespace Go.Proofs.Num
open Go Go.RowKit
def digL : List UInt8 := [48, 49, 50, 51, 52, 53, 54, 55, 56, 57, 97, 98, 99, 100, 101, 102]
def hexL : List UInt8 → List UInt8
  | [] => []
  | b :: l => digL.getD (b.toNat / 16) 0 :: digL.getD (b.toNat % 16) 0 :: hexL l
theorem hexL_len : ∀ l : List UInt8, (hexL l).length = 2 * l.length
  | [] => rfl
  | b :: l => by simp [hexL, hexL_len l]; omega
theorem hexL_app : ∀ a b : List UInt8, hexL (a ++ b) = hexL a ++ hexL b
  | [], _ => rfl
  | x :: a, b => by simp [hexL, hexL_app a b]
theorem hex_step (l : List UInt8) {i : Nat} (h : i < l.length) : bcells (hexL (l.take i)) ++ [.int .u8 ((byteN digL (byteN l i / 16) : Nat) : Int)] ++ [.int .u8 ((byteN digL (byteN l i % 16) : Nat) : Int)] = bcells (hexL (l.take (i + 1))) := by
  have e : l.take (i + 1) = l.take i ++ [l[i]] := by rw [List.take_add_one, List.getElem?_eq_getElem h]; rfl
  have e2 : byteN l i = l[i].toNat := by unfold byteN; rw [List.getD_eq_getElem?_getD, List.getElem?_eq_getElem h]; rfl
  rw [e, hexL_app, e2]
  simp [bcells, hexL, byteN]
/-- The digits of the first seed. -/
def HX : List UInt8 := hexL firstL
theorem hx_all : ∀ i, i < 32 → Lib.indexByte digL (((byteN (HX.drop (2 * i)) 0 : Nat) : Int).toNat.toUInt8) = ((byteN firstL i / 16 : Nat) : Int) ∧ Lib.indexByte digL (((byteN (HX.drop (2 * i)) 1 : Nat) : Int).toNat.toUInt8) = ((byteN firstL i % 16 : Nat) : Int) := by decide +kernel
theorem hx_len : HX.length = 64 := by decide
theorem first_byte {i : Nat} (h : i < 32) : bcells (firstL.take i) ++ [.int .u8 ((byteN firstL i : Nat) : Int)] = bcells (firstL.take (i + 1)) := by
  have hl : i < firstL.length := h
  have e : firstL.take (i + 1) = firstL.take i ++ [firstL[i]] := by rw [List.take_add_one, List.getElem?_eq_getElem hl]; rfl
  have e2 : byteN firstL i = firstL[i].toNat := by unfold byteN; rw [List.getD_eq_getElem?_getD, List.getElem?_eq_getElem hl]; rfl
  rw [e, e2]
  unfold bcells
  rw [List.map_append]
  rfl
theorem or4_fin : ∀ a b : Fin 16, bits .or .i64 ((a.val * 16 : Nat) : Int) (b.val : Int) = ((a.val * 16 + b.val : Nat) : Int) := by decide +kernel
theorem and15_fin : ∀ b : Fin 256, bits .and .u8 (b.val : Int) 15 = ((b.val % 16 : Nat) : Int) := by decide +kernel
theorem and_15 {b : Nat} (h : b < 256) : bits .and .u8 (b : Int) 15 = ((b % 16 : Nat) : Int) := and15_fin ⟨b, h⟩
end Go.Proofs.Num

