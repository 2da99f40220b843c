/-
  No cell of these rows narrows 'for every input' (looked for: loops, veiled, ifaces, maps, wideKeys, modest, calm, conditions, laid).
  DERIVED. THE GIVEN ROWS OF THIS SEAT. 7 by the template 'for every input the law returns true; each argument reads behind the call as it read before'; 0 by the template 'total and deterministic' (their statements: YtdcmmnindlhghaaTotals.lean).
  GIVEN WITH THE SEED: the statements are not yours to turn. If you find one false, say at which input.
  Laid BY PROGRAM, IN A SANDBOX (cutbox-rows.mjs): the forced cells as the released guide's own fill.sh prints them over the translation 22ae36b17a26ce30… (all of the seat's roots in one cut). By AI agents, Wed Nov 11 2026. No macro, syntax, notation, axiom, sorry.
-/
import Derived.Test.YtdcmmnindlhghaaChecked
import GoSem.Claim
import GoSem.ClaimJoined
import GoSem.ClaimMapViews
import Derived.JoinedTies
import Derived.KernelRfl
namespace Go.Proofs.Ytdcmmnindlhghaa
/- THE CELL 'sum', in the pinned program and in every row, IS THE sha256 OF THE DUMP (.gsa) THAT YtdcmmnindlhghaaProg.lean LOADS. Nothing in Lean hashes anything: it is a label: what it is worth is what the hold of that sum in a sandbox is worth. -/
noncomputable def Try.pinned : Pinned := { name := "ytdcmmnindlhghaa", sum := "22ae36b17a26ce301294e60dc4390d86c39ab448b43228ccdf5ee3e8ccb05d44", checked := Try.checked }
namespace Rows
def none {H : Type} : Left H := { results := [], args := [] }

/-- 'imprimaturlaw06.PointBytes': WHATEVER THE INPUT: true; the input reads as it did. -/
def pointBytesSpec : ChangeSpec := { name := "pointBytes", fn := fun _ => fun
  | [d] => { results := [.lit (.bool true)], args := [d] }
  | _ => none }
def pointBytesRow : OpenClaim := { program := "ytdcmmnindlhghaa", sum := "22ae36b17a26ce301294e60dc4390d86c39ab448b43228ccdf5ee3e8ccb05d44", func := "imprimatur/imprimaturlaw06.PointBytes", spec := "pointBytes", inPlace := ["math/bits.Sub64", "math/bits.Add64", "internal/abi.NoEscape", "internal/bytealg.MakeNoZero"], apart := false }
def PointBytesSaid : Prop := pointBytesRow.holds Try.pinned (OpenSpec.ofChange pointBytesSpec)

/-- ITS FALSE NEIGHBOUR: 'it returns false'. Refute it at one input. -/
def pointBytesWrong : ChangeSpec := { name := "pointBytes", fn := fun _ => fun
  | [d] => { results := [.lit (.bool false)], args := [d] }
  | _ => none }
def PointBytesWrongFalsely : Prop := pointBytesRow.holds Try.pinned (OpenSpec.ofChange pointBytesWrong)

/-- 'imprimaturlaw06.PointMay': WHATEVER THE INPUT: true; the input reads as it did. -/
def pointMaySpec : ChangeSpec := { name := "pointMay", fn := fun _ => fun
  | [d1, d2] => { results := [.lit (.bool true)], args := [d1, d2] }
  | _ => none }
def pointMayRow : OpenClaim := { program := "ytdcmmnindlhghaa", sum := "22ae36b17a26ce301294e60dc4390d86c39ab448b43228ccdf5ee3e8ccb05d44", func := "imprimatur/imprimaturlaw06.PointMay", spec := "pointMay", inPlace := ["math/bits.Add64", "math/bits.Sub64", "internal/abi.NoEscape", "internal/bytealg.MakeNoZero"], apart := false }
def PointMaySaid : Prop := pointMayRow.holds Try.pinned (OpenSpec.ofChange pointMaySpec)

/-- ITS FALSE NEIGHBOUR: 'it returns false'. Refute it at one input. -/
def pointMayWrong : ChangeSpec := { name := "pointMay", fn := fun _ => fun
  | [d1, d2] => { results := [.lit (.bool false)], args := [d1, d2] }
  | _ => none }
def PointMayWrongFalsely : Prop := pointMayRow.holds Try.pinned (OpenSpec.ofChange pointMayWrong)

/-- 'imprimaturlaw06.PointAdds': WHATEVER THE INPUT: true; the input reads as it did. -/
def pointAddsSpec : ChangeSpec := { name := "pointAdds", fn := fun _ => fun
  | [d1, d2, d3] => { results := [.lit (.bool true)], args := [d1, d2, d3] }
  | _ => none }
def pointAddsRow : OpenClaim := { program := "ytdcmmnindlhghaa", sum := "22ae36b17a26ce301294e60dc4390d86c39ab448b43228ccdf5ee3e8ccb05d44", func := "imprimatur/imprimaturlaw06.PointAdds", spec := "pointAdds", inPlace := ["math/bits.Sub64", "math/bits.Add64", "internal/abi.NoEscape", "internal/bytealg.MakeNoZero"], apart := false }
def PointAddsSaid : Prop := pointAddsRow.holds Try.pinned (OpenSpec.ofChange pointAddsSpec)

/-- ITS FALSE NEIGHBOUR: 'it returns false'. Refute it at one input. -/
def pointAddsWrong : ChangeSpec := { name := "pointAdds", fn := fun _ => fun
  | [d1, d2, d3] => { results := [.lit (.bool false)], args := [d1, d2, d3] }
  | _ => none }
def PointAddsWrongFalsely : Prop := pointAddsRow.holds Try.pinned (OpenSpec.ofChange pointAddsWrong)

/-- 'imprimaturlaw06.PointGroup': WHATEVER THE INPUT: true; the input reads as it did. -/
def pointGroupSpec : ChangeSpec := { name := "pointGroup", fn := fun _ => fun
  | [d1, d2, d3, d4] => { results := [.lit (.bool true)], args := [d1, d2, d3, d4] }
  | _ => none }
def pointGroupRow : OpenClaim := { program := "ytdcmmnindlhghaa", sum := "22ae36b17a26ce301294e60dc4390d86c39ab448b43228ccdf5ee3e8ccb05d44", func := "imprimatur/imprimaturlaw06.PointGroup", spec := "pointGroup", inPlace := ["math/bits.Sub64", "math/bits.Add64", "internal/abi.NoEscape", "internal/bytealg.MakeNoZero"], apart := false }
def PointGroupSaid : Prop := pointGroupRow.holds Try.pinned (OpenSpec.ofChange pointGroupSpec)

/-- ITS FALSE NEIGHBOUR: 'it returns false'. Refute it at one input. -/
def pointGroupWrong : ChangeSpec := { name := "pointGroup", fn := fun _ => fun
  | [d1, d2, d3, d4] => { results := [.lit (.bool false)], args := [d1, d2, d3, d4] }
  | _ => none }
def PointGroupWrongFalsely : Prop := pointGroupRow.holds Try.pinned (OpenSpec.ofChange pointGroupWrong)

/-- 'imprimaturlaw06.PointSigns': WHATEVER THE INPUT: true; the input reads as it did. -/
def pointSignsSpec : ChangeSpec := { name := "pointSigns", fn := fun _ => fun
  | [d] => { results := [.lit (.bool true)], args := [d] }
  | _ => none }
def pointSignsRow : OpenClaim := { program := "ytdcmmnindlhghaa", sum := "22ae36b17a26ce301294e60dc4390d86c39ab448b43228ccdf5ee3e8ccb05d44", func := "imprimatur/imprimaturlaw06.PointSigns", spec := "pointSigns", inPlace := ["math/bits.Sub64", "math/bits.Add64", "internal/abi.NoEscape", "internal/bytealg.MakeNoZero"], apart := false }
def PointSignsSaid : Prop := pointSignsRow.holds Try.pinned (OpenSpec.ofChange pointSignsSpec)

/-- ITS FALSE NEIGHBOUR: 'it returns false'. Refute it at one input. -/
def pointSignsWrong : ChangeSpec := { name := "pointSigns", fn := fun _ => fun
  | [d] => { results := [.lit (.bool false)], args := [d] }
  | _ => none }
def PointSignsWrongFalsely : Prop := pointSignsRow.holds Try.pinned (OpenSpec.ofChange pointSignsWrong)

/-- 'imprimaturlaw06.PointTimes': WHATEVER THE INPUT: true; the input reads as it did. -/
def pointTimesSpec : ChangeSpec := { name := "pointTimes", fn := fun _ => fun
  | [d1, d2] => { results := [.lit (.bool true)], args := [d1, d2] }
  | _ => none }
def pointTimesRow : OpenClaim := { program := "ytdcmmnindlhghaa", sum := "22ae36b17a26ce301294e60dc4390d86c39ab448b43228ccdf5ee3e8ccb05d44", func := "imprimatur/imprimaturlaw06.PointTimes", spec := "pointTimes", inPlace := ["math/bits.Sub64", "math/bits.Add64", "internal/abi.NoEscape", "internal/bytealg.MakeNoZero"], apart := false }
def PointTimesSaid : Prop := pointTimesRow.holds Try.pinned (OpenSpec.ofChange pointTimesSpec)

/-- ITS FALSE NEIGHBOUR: 'it returns false'. Refute it at one input. -/
def pointTimesWrong : ChangeSpec := { name := "pointTimes", fn := fun _ => fun
  | [d1, d2] => { results := [.lit (.bool false)], args := [d1, d2] }
  | _ => none }
def PointTimesWrongFalsely : Prop := pointTimesRow.holds Try.pinned (OpenSpec.ofChange pointTimesWrong)

/-- 'imprimaturlaw06.PointLinear': WHATEVER THE INPUT: true; the input reads as it did. -/
def pointLinearSpec : ChangeSpec := { name := "pointLinear", fn := fun _ => fun
  | [d1, d2] => { results := [.lit (.bool true)], args := [d1, d2] }
  | _ => none }
def pointLinearRow : OpenClaim := { program := "ytdcmmnindlhghaa", sum := "22ae36b17a26ce301294e60dc4390d86c39ab448b43228ccdf5ee3e8ccb05d44", func := "imprimatur/imprimaturlaw06.PointLinear", spec := "pointLinear", inPlace := ["math/bits.Sub64", "math/bits.Add64", "internal/abi.NoEscape", "internal/bytealg.MakeNoZero"], apart := false }
def PointLinearSaid : Prop := pointLinearRow.holds Try.pinned (OpenSpec.ofChange pointLinearSpec)

/-- ITS FALSE NEIGHBOUR: 'it returns false'. Refute it at one input. -/
def pointLinearWrong : ChangeSpec := { name := "pointLinear", fn := fun _ => fun
  | [d1, d2] => { results := [.lit (.bool false)], args := [d1, d2] }
  | _ => none }
def PointLinearWrongFalsely : Prop := pointLinearRow.holds Try.pinned (OpenSpec.ofChange pointLinearWrong)

/- THE SECOND FORM. 'bulk': how many values and letters a reading holds, each counted each time it is reached (what is shared counts as often as it is met; a slice's spare places count too). A statement '..UptoSaid' is the law's where the arguments, and the package variables that the reading takes, are together of bulk at most 1048576: NARROWER than '..Said'. Prove '..Said' where nothing that the law and all that it calls make is longer than what came in: it says more and counts as full. Else prove '..UptoSaid'. A law counts once. -/
mutual
def uptoBulk {H : Type} : DataW H → Nat
  | .lit (.string bytes) => bytes.length + 1
  | .lit _ => 1
  | .nil => 1
  | .ptr d => uptoBulk d + 1
  | .slice elems spare => uptoBulkAll elems + uptoBulkAll spare + 1
  | .agg parts => uptoBulkAll parts + 1
  | .iface _ d => uptoBulk d + 1
  | .map entries => uptoBulkEntries entries + 1
  | .held _ => 1
def uptoBulkAll {H : Type} : List (DataW H) → Nat
  | [] => 0
  | d :: r => uptoBulk d + uptoBulkAll r
def uptoBulkEntries {H : Type} : List (Lit × DataW H) → Nat
  | [] => 0
  | x :: r => uptoBulkEntry x + uptoBulkEntries r
def uptoBulkEntry {H : Type} : Lit × DataW H → Nat
  | (.string bytes, d) => bytes.length + uptoBulk d + 1
  | (_, d) => uptoBulk d + 1
 end
def uptoSmall : (H : Type) → List (DataW H) → Bool := fun _ ds => decide (uptoBulkAll ds ≤ 1048576)
def OpenSpec.upto (s : _root_.Go.ChangeSpec) : _root_.Go.OpenSpec := { _root_.Go.OpenSpec.ofChange s with cond := some uptoSmall }

/-- 'imprimaturlaw06.PointBytes', WHERE WHAT IT READS IS OF BULK AT MOST 1048576: true; the input reads as it did. -/
def pointBytesUptoRow : OpenClaim := { program := "ytdcmmnindlhghaa", sum := "22ae36b17a26ce301294e60dc4390d86c39ab448b43228ccdf5ee3e8ccb05d44", func := "imprimatur/imprimaturlaw06.PointBytes", spec := "pointBytes", inPlace := ["math/bits.Sub64", "math/bits.Add64", "internal/abi.NoEscape", "internal/bytealg.MakeNoZero"], apart := false, narrowed := true }
def PointBytesUptoSaid : Prop := pointBytesUptoRow.holds Try.pinned (OpenSpec.upto pointBytesSpec)

/-- 'imprimaturlaw06.PointMay', WHERE WHAT IT READS IS OF BULK AT MOST 1048576: true; the input reads as it did. -/
def pointMayUptoRow : OpenClaim := { program := "ytdcmmnindlhghaa", sum := "22ae36b17a26ce301294e60dc4390d86c39ab448b43228ccdf5ee3e8ccb05d44", func := "imprimatur/imprimaturlaw06.PointMay", spec := "pointMay", inPlace := ["math/bits.Add64", "math/bits.Sub64", "internal/abi.NoEscape", "internal/bytealg.MakeNoZero"], apart := false, narrowed := true }
def PointMayUptoSaid : Prop := pointMayUptoRow.holds Try.pinned (OpenSpec.upto pointMaySpec)

/-- 'imprimaturlaw06.PointAdds', WHERE WHAT IT READS IS OF BULK AT MOST 1048576: true; the input reads as it did. -/
def pointAddsUptoRow : OpenClaim := { program := "ytdcmmnindlhghaa", sum := "22ae36b17a26ce301294e60dc4390d86c39ab448b43228ccdf5ee3e8ccb05d44", func := "imprimatur/imprimaturlaw06.PointAdds", spec := "pointAdds", inPlace := ["math/bits.Sub64", "math/bits.Add64", "internal/abi.NoEscape", "internal/bytealg.MakeNoZero"], apart := false, narrowed := true }
def PointAddsUptoSaid : Prop := pointAddsUptoRow.holds Try.pinned (OpenSpec.upto pointAddsSpec)

/-- 'imprimaturlaw06.PointGroup', WHERE WHAT IT READS IS OF BULK AT MOST 1048576: true; the input reads as it did. -/
def pointGroupUptoRow : OpenClaim := { program := "ytdcmmnindlhghaa", sum := "22ae36b17a26ce301294e60dc4390d86c39ab448b43228ccdf5ee3e8ccb05d44", func := "imprimatur/imprimaturlaw06.PointGroup", spec := "pointGroup", inPlace := ["math/bits.Sub64", "math/bits.Add64", "internal/abi.NoEscape", "internal/bytealg.MakeNoZero"], apart := false, narrowed := true }
def PointGroupUptoSaid : Prop := pointGroupUptoRow.holds Try.pinned (OpenSpec.upto pointGroupSpec)

/-- 'imprimaturlaw06.PointSigns', WHERE WHAT IT READS IS OF BULK AT MOST 1048576: true; the input reads as it did. -/
def pointSignsUptoRow : OpenClaim := { program := "ytdcmmnindlhghaa", sum := "22ae36b17a26ce301294e60dc4390d86c39ab448b43228ccdf5ee3e8ccb05d44", func := "imprimatur/imprimaturlaw06.PointSigns", spec := "pointSigns", inPlace := ["math/bits.Sub64", "math/bits.Add64", "internal/abi.NoEscape", "internal/bytealg.MakeNoZero"], apart := false, narrowed := true }
def PointSignsUptoSaid : Prop := pointSignsUptoRow.holds Try.pinned (OpenSpec.upto pointSignsSpec)

/-- 'imprimaturlaw06.PointTimes', WHERE WHAT IT READS IS OF BULK AT MOST 1048576: true; the input reads as it did. -/
def pointTimesUptoRow : OpenClaim := { program := "ytdcmmnindlhghaa", sum := "22ae36b17a26ce301294e60dc4390d86c39ab448b43228ccdf5ee3e8ccb05d44", func := "imprimatur/imprimaturlaw06.PointTimes", spec := "pointTimes", inPlace := ["math/bits.Sub64", "math/bits.Add64", "internal/abi.NoEscape", "internal/bytealg.MakeNoZero"], apart := false, narrowed := true }
def PointTimesUptoSaid : Prop := pointTimesUptoRow.holds Try.pinned (OpenSpec.upto pointTimesSpec)

/-- 'imprimaturlaw06.PointLinear', WHERE WHAT IT READS IS OF BULK AT MOST 1048576: true; the input reads as it did. -/
def pointLinearUptoRow : OpenClaim := { program := "ytdcmmnindlhghaa", sum := "22ae36b17a26ce301294e60dc4390d86c39ab448b43228ccdf5ee3e8ccb05d44", func := "imprimatur/imprimaturlaw06.PointLinear", spec := "pointLinear", inPlace := ["math/bits.Sub64", "math/bits.Add64", "internal/abi.NoEscape", "internal/bytealg.MakeNoZero"], apart := false, narrowed := true }
def PointLinearUptoSaid : Prop := pointLinearUptoRow.holds Try.pinned (OpenSpec.upto pointLinearSpec)

end Rows
end Go.Proofs.Ytdcmmnindlhghaa
