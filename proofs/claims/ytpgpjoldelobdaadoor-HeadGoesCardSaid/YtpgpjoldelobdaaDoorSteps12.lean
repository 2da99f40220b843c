/- A text turned into bytes. -/
import Derived.Test.YtpgpjoldelobdaaDoorEqS
import Derived.Lib.ConvBytes
import Derived.Laws.AppendOwn
import Derived.Test.YtpgpjoldelobdaaDoorSteps8
set_option linter.unusedSimpArgs false
set_option linter.unusedVariables false
namespace Go.Proofs.Num
open Go Go.RowKit
theorem bytesWorld_below (w : World) (e : TypeId) (s : ByteArray) : Below w.heap.size w (Lib.bytesWorld w e s) := by
 refine ⟨rfl, rfl, rfl, ?_, fun k hk => Lib.bytesWorld_at_old w e s k hk⟩
 rw [Lib.bytesWorld_size]
 omega
theorem wpL_s2b {P : Program} {ops : Array Oper} {Q : Exit → Act → World → Prop} {rest : List Oper} {a : Act} {W : World} {o : Oper} {S T e : TypeId} {x : Operand} {l : List UInt8} {u : TypeDesc} (hg : o.guard = none) (ho : o.op = .convert S T x) (hx : a.eval x = .string (bs l))
  (hS : P.underlying S = some u) (hT : P.underlying T = some (.slice e)) (he : P.underlying e = some (.int .u8)) (hl : l.length ≤ maxLen)
  (hk : ∀ g c W', Sees W W' → W.heap.size ≤ g → l.length ≤ c → W'.rangeAt g 0 (bcells l) → W'.there g 0 c → g < W'.heap.size → wpList P ops Q rest (a.put o.dst (.slice (some ⟨g, 0, none⟩) l.length c)) W') : wpList P ops Q (o :: rest) a W := by
 have hrun := Lib.run_convert_string_bytes (P := P) W S T e (bs l) hS hT he
 have hsz : (bs l).size = l.length := by simp [bs_size]
 have hcap : l.length ≤ grownCap W (bs l).size 0 e := by
  rw [hsz]
  exact grownCap_ge W _ 0 e
 refine wpList_plain hg fun K hK => ?_
 unfold Oper.wp
 simp only [execOp, ho, hx, Sem.run_bind, hrun, Result.andThen_ok, Sem.run_pure, Oper.upon_value]
 rw [hsz] at hcap ⊢
 have hcs : (Lib.bytesCells W e (bs l)).size = grownCap W l.length 0 e := by
  unfold Lib.bytesCells
  rw [hsz]
  simp [bs]
  omega
 refine hK _ _ (hk _ _ _ (sees_of (bytesWorld_below W e (bs l))) (Nat.le_refl _) hcap ?_ ?_ (by rw [Lib.bytesWorld_size]; omega))
 ·
  intro j v hv
  have hj := (List.getElem?_eq_some_iff.1 hv).1
  rw [bcells, List.length_map] at hj
  have h9 := Lib.bytesWorld_cell W e (bs l) j (by rw [hsz]; exact hj)
  rw [Nat.zero_add, h9]
  rw [bcells, List.getElem?_map, List.getElem?_eq_getElem hj] at hv
  simp only [Option.map_some] at hv
  rw [← hv]
  congr 2
  simp [bs, List.getD_eq_getElem?_getD, List.getElem?_eq_getElem hj]
 ·
  intro j hj
  rw [Nat.zero_add]
  unfold World.cell? World.frozen?
  simp only [Lib.bytesWorld_at_new, hcs]
  refine ⟨?_, ?_⟩
  ·
   simp [hcs, hj]
  ·
   simp
   omega
end Go.Proofs.Num

