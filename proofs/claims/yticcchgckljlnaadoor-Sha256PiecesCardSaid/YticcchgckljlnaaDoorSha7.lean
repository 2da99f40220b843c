/- Whole blocks, and fewer bytes than one. -/
import Derived.Test.YticcchgckljlnaaDoorSha5
set_option linter.unusedSimpArgs false
set_option linter.unusedVariables false
namespace Go.Proofs.Num
open Go
def rowB (f n : Nat) : List UInt8 := (List.range n).map fun j => UInt8.ofNat ((f + j) % 256)
theorem rowB_len (f n : Nat) : (rowB f n).length = n := by simp [rowB]
theorem row_start (f n : Nat) : List.replicate n (.int .u8 0) = bl n (fun j => if j < 0 then (f + j) % 256 else 0) := by
  rw [bl_zero]
  exact bl_ext fun j _ => by rw [if_neg (Nat.not_lt_zero _)]
theorem row_put (f n : Nat) {i : Nat} (_h : i < n) : (bl n (fun j => if j < i then (f + j) % 256 else 0)).set i (.int .u8 (((f + i) % 256 : Nat) : Int)) = bl n (fun j => if j < i + 1 then (f + j) % 256 else 0) := by
  refine (bl_set _ _ _).trans (bl_ext fun j hj => ?_)
  by_cases h0 : j = i
  · rw [if_pos h0, if_pos (by omega), h0]
  · rw [if_neg h0]
    by_cases h1 : j < i
    · rw [if_pos h1, if_pos (by omega)]
    · rw [if_neg h1, if_neg (by omega)]
theorem row_all (f n : Nat) : bl n (fun j => if j < n then (f + j) % 256 else 0) = bcells (rowB f n) := by
  unfold bl bcells rowB
  rw [List.map_map]
  refine List.map_congr_left fun j hj => ?_
  have := List.mem_range.1 hj
  simp [if_pos this, UInt8.toNat_ofNat']
abbrev newX : SX := ⟨H0, [], 0⟩
theorem newX_ok : newX.Ok := ⟨H0_ok, Nat.zero_le _, by decide⟩
theorem newX_right : rightX newX = true := by decide
theorem goX_ok {x : SX} (h : x.Ok) (l : List UInt8) : (goX x l).Ok :=
  ⟨takeH_ok _ _ _ (Nat.le_refl _) h.h, Nat.le_trans (Nat.le_of_lt (takeR_len _)) (by decide), Nat.mod_lt _ (by decide)⟩
theorem takeR_nil {l : List UInt8} (h : l.length % 64 = 0) : takeR l = [] := List.length_eq_zero_iff.1 (by rw [takeR_mod, h])
theorem blocks1 {row : List UInt8} {p : Nat} (h : row.length = 64 * p) (hp : p ≤ 5) : (writeX newX row).Ok ∧ (writeX newX row).b = [] ∧ (writeX newX row).n = 64 * p ∧ writeE newX row = 0 := by
  have ho : overX newX row = false := decide_eq_false (by simp)
  obtain ⟨e1, e2⟩ := writeX_go newX_right ho
  rw [e1, e2]
  refine ⟨goX_ok newX_ok _, takeR_nil (by simp; omega), ?_, rfl⟩
  show (0 + row.length) % 18446744073709551616 = _
  omega
theorem blocks2 {y : SX} {m : List UInt8} {p : Nat} (hb : y.b = []) (hn : y.n = 64 * p) (hp : p ≤ 5) (hm : m.length ≤ 63) :
    (writeX y m).h = y.h ∧ (writeX y m).b = m ∧ (writeX y m).n = 64 * p + m.length ∧ writeE y m = 0 := by
  have hr : rightX y = true := by
    unfold rightX
    rw [hb, hn]
    simp
    omega
  have ho : overX y m = false := decide_eq_false (by omega)
  obtain ⟨e1, e2⟩ := writeX_go hr ho
  rw [e1, e2]
  have e : y.b ++ m = m := by rw [hb]; rfl
  refine ⟨?_, ?_, ?_, rfl⟩
  · show takeH y.h (y.b ++ m) = _
    rw [e]; exact takeH_done (by omega)
  · show takeR (y.b ++ m) = _
    rw [e]; exact takeR_done (by omega)
  · show (y.n + m.length) % 18446744073709551616 = _
    omega
end Go.Proofs.Num
