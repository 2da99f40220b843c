/- Keys and signatures, plainly: what the program makes. -/
import Derived.Test.YtpgpjoldelobdaaDoorShq
import Derived.Test.YtpgpjoldelobdaaDoorAdds2
import Derived.Test.YtpgpjoldelobdaaDoorSteps12
import Derived.Test.YtpgpjoldelobdaaDoorSteps8
set_option linter.unusedSimpArgs false
set_option linter.unusedVariables false
namespace Go.Proofs.Num
open Go Go.RowKit
/-- A seed's sum, its first and its last of 32 bytes as they must be. -/
def clampL (l : List UInt8) : List UInt8 := (l.set 0 (UInt8.ofNat (byteN l 0 / 8 * 8))).set 31 (UInt8.ofNat (byteN l 31 % 64 + 64))
theorem clampL_len (l : List UInt8) : (clampL l).length = l.length := by unfold clampL; rw [List.length_set, List.length_set]
theorem clampL_drop (l : List UInt8) : (clampL l).drop 32 = l.drop 32 := by
 unfold clampL
 rw [List.drop_set_of_lt (by decide), List.drop_set_of_lt (by decide)]
/-- A seed's number and its prefix. -/
def edN (seed : List UInt8) : Nat := leN ((clampL (shaq seed)).take 32)
def edP (seed : List UInt8) : List UInt8 := (shaq seed).drop 32
theorem edP_len (seed : List UInt8) : (edP seed).length = 32 := by unfold edP; rw [List.length_drop, sha_lenq]
theorem edN_lt (seed : List UInt8) : edN seed < 2 ^ 256 := by
 unfold edN
 have h := leN_lt ((clampL (shaq seed)).take 32)
 rw [List.length_take, clampL_len, sha_lenq] at h
 exact Nat.lt_of_lt_of_eq h (by decide)
/-- The bytes of the base point so many times. -/
def edT (n : Nat) : List UInt8 := textQ (affX (mulR n baseP 256)) (affY (mulR n baseP 256))
theorem edT_len (n : Nat) : (edT n).length = 32 := textQ_len _ _
/-- What the sum of parts leaves. -/
def edR (ps : List (List UInt8)) : Nat := restS (leN (shaq ps.flatten))
theorem edR_lt (ps : List (List UInt8)) : edR ps < 2 ^ 256 := restS_lt _
/-- A signature. -/
def edS (seed m : List UInt8) : List UInt8 :=
 edT (edR [edP seed, m]) ++ bytesN 32 (restS (sadd (edR [edP seed, m]) (smul (edR [edT (edR [edP seed, m]), edT (edN seed), m]) (edN seed))))
theorem edS_len (seed m : List UInt8) : (edS seed m).length = 64 := by unfold edS; rw [List.length_append, edT_len, bytesN_len]
end Go.Proofs.Num

namespace Go.Proofs.Num
open Go Go.RowKit
section
variable {P : Program} {ops : Array Oper} {w0 : World} {L : Act → Prop} {o : Oper} {rest : List Oper} {a : Act}
theorem wpV_b2sD {S T e : TypeId} {x : Operand} {g cap off : Nat} {l : List UInt8} (hw : Region.wanted o (yielded ops a.tmps) = true) (ho : o.op = .convert S T x) {n : Nat} (hx : a.eval x = .slice (some ⟨g, off, none⟩) n cap) (hn : n = l.length - off)
  (hS : P.underlying S = some (.slice e)) (he : P.underlying e = some (.int .u8)) (hT : P.underlying T = some .string) (hr : w0.rangeAt g 0 (bcells l)) (hg : g < w0.heap.size)
  (h : wpV P ops w0 L rest (a.put o.dst (.string (bs (l.drop off))))) : wpV P ops w0 L (o :: rest) a :=
 wpV_val (by simp [isAlloc, ho]) hw (fun W hW => by
  unfold RunsVal
  subst hn
  have hr' := range_sees hr hg hW
  have := run_convert_bytes_back (P := P) W S T e ⟨g, off, none⟩ cap (l.drop off) hS he hT (fun j hj => by
   rw [List.length_drop] at hj
   have := hr' (off + j) (.int .u8 ((l.drop off)[j]'(by rw [List.length_drop]; exact hj) |>.toNat : Int)) (by simp [bcells, List.getElem?_eq_getElem (show off + j < l.length by omega)])
   rw [Nat.zero_add] at this
   rcases j with _ | j
   ·
    simpa [Addr.add] using this
   ·
    simpa [Addr.add] using this)
  rw [List.length_drop] at this
  simp only [execOp, ho, hx, Sem.run_bind, this, Result.andThen_ok, Sem.run_pure, bs]) h
end
theorem bcells_at {l : List UInt8} {i : Nat} (h : i < l.length) : (bcells l)[i]? = some (.int .u8 ((byteN l i : Nat) : Int)) := by
 unfold bcells byteN
 rw [List.getElem?_map, List.getElem?_eq_getElem h, List.getD_eq_getElem?_getD, List.getElem?_eq_getElem h]
 rfl
theorem bcells_put (l : List UInt8) (i : Nat) {v : Nat} (h : v < 256) : (bcells l).set i (.int .u8 ((v : Nat) : Int)) = bcells (l.set i (UInt8.ofNat v)) := by
 have h9 : (UInt8.ofNat v).toNat = v := by
  rw [UInt8.toNat_ofNat']
  exact Nat.mod_eq_of_lt h
 unfold bcells
 rw [List.map_set, h9]
theorem byteN_set_ne (l : List UInt8) {i j : Nat} (v : UInt8) (h : i ≠ j) : byteN (l.set i v) j = byteN l j := by
 unfold byteN
 rw [List.getD_eq_getElem?_getD, List.getD_eq_getElem?_getD, List.getElem?_set_ne h]
theorem getD_all {ps : List (List UInt8)} {B : Nat} (h : ∀ l ∈ ps, l.length ≤ B) (k : Nat) : (ps.getD k []).length ≤ B := by
 rw [List.getD_eq_getElem?_getD]
 rcases h9 : ps[k]? with _ | l
 ·
  exact Nat.zero_le _
 ·
  exact h l (List.mem_of_getElem? h9)
end Go.Proofs.Num

