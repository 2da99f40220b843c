import Derived.WalkKit
import Derived.WalkSpells
import Derived.Laws.Pointers
import Derived.RowKit3
import Derived.Below
import Derived.Outline
import Derived.LoopN
import Derived.Lib.Hide
import Derived.Handy
import Derived.Laws.Bits64b
import Derived.Test.YtpgpjoldelobdaaDoorEdC
import Derived.Test.YtpgpjoldelobdaaDoorEdL
set_option linter.unusedSimpArgs false
set_option linter.unusedVariables false
namespace Go.Proofs.Yc
open Go Go.RowKit Go.Proofs.Num

attribute [local irreducible] wpV wpN wpList
open Go.Proofs.Ya
theorem key_right (n : Nat) : rightP (mulR n baseP 256) = true := right_mulR rightP_base 256
/-- The key's point. -/
def keyP (n : Nat) : P4 := affP (affX (mulR n baseP 256)) (affY (mulR n baseP 256))
theorem keyP_par (n : Nat) : pPar (edT n) = (keyP n, 0) := pPar_text (key_right n)
end Go.Proofs.Yc

