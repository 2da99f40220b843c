/- Drawn regions: what hangs on no world goes first, guarded or not. -/
import Derived.Test.YtpgpjoldelobdaaDoorMac
import Derived.Test.YtpgpjoldelobdaaDoorShq
set_option linter.unusedSimpArgs false
set_option linter.unusedVariables false
namespace Go.Proofs.Num
open Go Go.RowKit
section
variable {P : Program} {Q : Exit → Act → World → Prop}
variable {o : Oper} {a : Act} {v : Value}
end
end Go.Proofs.Num
namespace Go.Proofs.Num
open Go Go.RowKit
theorem Mem.neK {w0 w : World} {l : List Bk} {b : Bk} (h : Mem [] w0 w l) (k : Nat) (hk : l[k]? = some b) {c : Nat} (h0 : c < w0.heap.size) : b.g ≠ c := fun e => by
 rcases (h.ok b (mem_of hk)).own with ho | ho
 ·
  omega
 ·
  cases ho
end Go.Proofs.Num

