/-
  No cell of these rows narrows 'for every input' (looked for: loops, veiled, ifaces, maps, wideKeys, modest, calm, conditions, laid).
  DERIVED. THE GIVEN ROWS OF THIS SEAT. 11 by the template 'for every input the law returns true; each argument reads behind the call as it read before'; 0 by the template 'total and deterministic' (their statements: YticdlngpljdhkaaTotals.lean).
  GIVEN WITH THE SEED: the statements are not yours to turn. If you find one false, say at which input.
  Laid BY PROGRAM, IN A SANDBOX (cutbox-rows.mjs): the forced cells as the released guide's own fill.sh prints them over the translation 3220e83e27d20563… (all of the seat's roots in one cut). By AI agents, Wed Nov 11 2026. No macro, syntax, notation, axiom, sorry.
-/
import Derived.Test.YticdlngpljdhkaaChecked
import GoSem.Claim
import GoSem.ClaimJoined
import GoSem.ClaimMapViews
import Derived.JoinedTies
import Derived.KernelRfl
namespace Go.Proofs.Yticdlngpljdhkaa
/- THE CELL 'sum', in the pinned program and in every row, IS THE sha256 OF THE DUMP (.gsa) THAT YticdlngpljdhkaaProg.lean LOADS. Nothing in Lean hashes anything: it is a label: what it is worth is what the hold of that sum in a sandbox is worth. -/
noncomputable def Try.pinned : Pinned := { name := "yticdlngpljdhkaa", sum := "3220e83e27d205630e5a938e9f519d870f5fb8f8e16a6a22bc2a3dc298adf11f", checked := Try.checked }
namespace Rows
def none {H : Type} : Left H := { results := [], args := [] }

/-- 'imprimaturlaw05.ScalarRules': WHATEVER THE INPUT: true; the input reads as it did. -/
def scalarRulesSpec : ChangeSpec := { name := "scalarRules", fn := fun _ => fun
  | [d1, d2, d3] => { results := [.lit (.bool true)], args := [d1, d2, d3] }
  | _ => none }
def scalarRulesRow : OpenClaim := { program := "yticdlngpljdhkaa", sum := "3220e83e27d205630e5a938e9f519d870f5fb8f8e16a6a22bc2a3dc298adf11f", func := "imprimatur/imprimaturlaw05.ScalarRules", spec := "scalarRules", inPlace := ["math/bits.Add64", "math/bits.Sub64"], unfollowed := true, recurses := true, apart := false }
def ScalarRulesSaid : Prop := scalarRulesRow.holds Try.pinned (OpenSpec.ofChange scalarRulesSpec)

/-- ITS FALSE NEIGHBOUR: 'it returns false'. Refute it at one input. -/
def scalarRulesWrong : ChangeSpec := { name := "scalarRules", fn := fun _ => fun
  | [d1, d2, d3] => { results := [.lit (.bool false)], args := [d1, d2, d3] }
  | _ => none }
def ScalarRulesWrongFalsely : Prop := scalarRulesRow.holds Try.pinned (OpenSpec.ofChange scalarRulesWrong)

/-- 'imprimaturlaw05.ScalarReckons': WHATEVER THE INPUT: true; the input reads as it did. -/
def scalarReckonsSpec : ChangeSpec := { name := "scalarReckons", fn := fun _ => fun
  | [d1, d2] => { results := [.lit (.bool true)], args := [d1, d2] }
  | _ => none }
def scalarReckonsRow : OpenClaim := { program := "yticdlngpljdhkaa", sum := "3220e83e27d205630e5a938e9f519d870f5fb8f8e16a6a22bc2a3dc298adf11f", func := "imprimatur/imprimaturlaw05.ScalarReckons", spec := "scalarReckons", inPlace := ["math/bits.Add64", "math/bits.Sub64"], apart := false }
def ScalarReckonsSaid : Prop := scalarReckonsRow.holds Try.pinned (OpenSpec.ofChange scalarReckonsSpec)

/-- ITS FALSE NEIGHBOUR: 'it returns false'. Refute it at one input. -/
def scalarReckonsWrong : ChangeSpec := { name := "scalarReckons", fn := fun _ => fun
  | [d1, d2] => { results := [.lit (.bool false)], args := [d1, d2] }
  | _ => none }
def ScalarReckonsWrongFalsely : Prop := scalarReckonsRow.holds Try.pinned (OpenSpec.ofChange scalarReckonsWrong)

/-- 'imprimaturlaw05.ScalarJoins': WHATEVER THE INPUT: true; the input reads as it did. -/
def scalarJoinsSpec : ChangeSpec := { name := "scalarJoins", fn := fun _ => fun
  | [d1, d2] => { results := [.lit (.bool true)], args := [d1, d2] }
  | _ => none }
def scalarJoinsRow : OpenClaim := { program := "yticdlngpljdhkaa", sum := "3220e83e27d205630e5a938e9f519d870f5fb8f8e16a6a22bc2a3dc298adf11f", func := "imprimatur/imprimaturlaw05.ScalarJoins", spec := "scalarJoins", inPlace := ["math/bits.Sub64", "math/bits.Add64"], apart := false }
def ScalarJoinsSaid : Prop := scalarJoinsRow.holds Try.pinned (OpenSpec.ofChange scalarJoinsSpec)

/-- ITS FALSE NEIGHBOUR: 'it returns false'. Refute it at one input. -/
def scalarJoinsWrong : ChangeSpec := { name := "scalarJoins", fn := fun _ => fun
  | [d1, d2] => { results := [.lit (.bool false)], args := [d1, d2] }
  | _ => none }
def ScalarJoinsWrongFalsely : Prop := scalarJoinsRow.holds Try.pinned (OpenSpec.ofChange scalarJoinsWrong)

/-- 'imprimaturlaw04.FieldReckons': WHATEVER THE INPUT: true; the input reads as it did. -/
def fieldReckonsSpec : ChangeSpec := { name := "fieldReckons", fn := fun _ => fun
  | [d1, d2, d3] => { results := [.lit (.bool true)], args := [d1, d2, d3] }
  | _ => none }
def fieldReckonsRow : OpenClaim := { program := "yticdlngpljdhkaa", sum := "3220e83e27d205630e5a938e9f519d870f5fb8f8e16a6a22bc2a3dc298adf11f", func := "imprimatur/imprimaturlaw04.FieldReckons", spec := "fieldReckons", inPlace := ["math/bits.Add64", "math/bits.Sub64"], apart := false }
def FieldReckonsSaid : Prop := fieldReckonsRow.holds Try.pinned (OpenSpec.ofChange fieldReckonsSpec)

/-- ITS FALSE NEIGHBOUR: 'it returns false'. Refute it at one input. -/
def fieldReckonsWrong : ChangeSpec := { name := "fieldReckons", fn := fun _ => fun
  | [d1, d2, d3] => { results := [.lit (.bool false)], args := [d1, d2, d3] }
  | _ => none }
def FieldReckonsWrongFalsely : Prop := fieldReckonsRow.holds Try.pinned (OpenSpec.ofChange fieldReckonsWrong)

/-- 'imprimaturlaw04.FieldRules': WHATEVER THE INPUT: true; the input reads as it did. -/
def fieldRulesSpec : ChangeSpec := { name := "fieldRules", fn := fun _ => fun
  | [d1, d2, d3] => { results := [.lit (.bool true)], args := [d1, d2, d3] }
  | _ => none }
def fieldRulesRow : OpenClaim := { program := "yticdlngpljdhkaa", sum := "3220e83e27d205630e5a938e9f519d870f5fb8f8e16a6a22bc2a3dc298adf11f", func := "imprimatur/imprimaturlaw04.FieldRules", spec := "fieldRules", inPlace := ["math/bits.Add64", "math/bits.Sub64"], unfollowed := true, recurses := true, apart := false }
def FieldRulesSaid : Prop := fieldRulesRow.holds Try.pinned (OpenSpec.ofChange fieldRulesSpec)

/-- ITS FALSE NEIGHBOUR: 'it returns false'. Refute it at one input. -/
def fieldRulesWrong : ChangeSpec := { name := "fieldRules", fn := fun _ => fun
  | [d1, d2, d3] => { results := [.lit (.bool false)], args := [d1, d2, d3] }
  | _ => none }
def FieldRulesWrongFalsely : Prop := fieldRulesRow.holds Try.pinned (OpenSpec.ofChange fieldRulesWrong)

/-- 'imprimaturlaw05.ScalarBytes': WHATEVER THE INPUT: true; the input reads as it did. -/
def scalarBytesSpec : ChangeSpec := { name := "scalarBytes", fn := fun _ => fun
  | [d1, d2] => { results := [.lit (.bool true)], args := [d1, d2] }
  | _ => none }
def scalarBytesRow : OpenClaim := { program := "yticdlngpljdhkaa", sum := "3220e83e27d205630e5a938e9f519d870f5fb8f8e16a6a22bc2a3dc298adf11f", func := "imprimatur/imprimaturlaw05.ScalarBytes", spec := "scalarBytes", inPlace := ["math/bits.Sub64", "math/bits.Add64"], apart := false }
def ScalarBytesSaid : Prop := scalarBytesRow.holds Try.pinned (OpenSpec.ofChange scalarBytesSpec)

/-- ITS FALSE NEIGHBOUR: 'it returns false'. Refute it at one input. -/
def scalarBytesWrong : ChangeSpec := { name := "scalarBytes", fn := fun _ => fun
  | [d1, d2] => { results := [.lit (.bool false)], args := [d1, d2] }
  | _ => none }
def ScalarBytesWrongFalsely : Prop := scalarBytesRow.holds Try.pinned (OpenSpec.ofChange scalarBytesWrong)

/-- 'imprimaturlaw05.ScalarBack': WHATEVER THE INPUT: true; the input reads as it did. -/
def scalarBackSpec : ChangeSpec := { name := "scalarBack", fn := fun _ => fun
  | [d1, d2] => { results := [.lit (.bool true)], args := [d1, d2] }
  | _ => none }
def scalarBackRow : OpenClaim := { program := "yticdlngpljdhkaa", sum := "3220e83e27d205630e5a938e9f519d870f5fb8f8e16a6a22bc2a3dc298adf11f", func := "imprimatur/imprimaturlaw05.ScalarBack", spec := "scalarBack", inPlace := ["math/bits.Sub64", "math/bits.Add64"], apart := false }
def ScalarBackSaid : Prop := scalarBackRow.holds Try.pinned (OpenSpec.ofChange scalarBackSpec)

/-- ITS FALSE NEIGHBOUR: 'it returns false'. Refute it at one input. -/
def scalarBackWrong : ChangeSpec := { name := "scalarBack", fn := fun _ => fun
  | [d1, d2] => { results := [.lit (.bool false)], args := [d1, d2] }
  | _ => none }
def ScalarBackWrongFalsely : Prop := scalarBackRow.holds Try.pinned (OpenSpec.ofChange scalarBackWrong)

/-- 'imprimaturlaw04.FieldInverts': WHATEVER THE INPUT: true; the input reads as it did. -/
def fieldInvertsSpec : ChangeSpec := { name := "fieldInverts", fn := fun _ => fun
  | [d] => { results := [.lit (.bool true)], args := [d] }
  | _ => none }
def fieldInvertsRow : OpenClaim := { program := "yticdlngpljdhkaa", sum := "3220e83e27d205630e5a938e9f519d870f5fb8f8e16a6a22bc2a3dc298adf11f", func := "imprimatur/imprimaturlaw04.FieldInverts", spec := "fieldInverts", inPlace := ["math/bits.Sub64", "math/bits.Add64"], apart := false }
def FieldInvertsSaid : Prop := fieldInvertsRow.holds Try.pinned (OpenSpec.ofChange fieldInvertsSpec)

/-- ITS FALSE NEIGHBOUR: 'it returns false'. Refute it at one input. -/
def fieldInvertsWrong : ChangeSpec := { name := "fieldInverts", fn := fun _ => fun
  | [d] => { results := [.lit (.bool false)], args := [d] }
  | _ => none }
def FieldInvertsWrongFalsely : Prop := fieldInvertsRow.holds Try.pinned (OpenSpec.ofChange fieldInvertsWrong)

/-- 'imprimaturlaw04.FieldHalves': WHATEVER THE INPUT: true; the input reads as it did. -/
def fieldHalvesSpec : ChangeSpec := { name := "fieldHalves", fn := fun _ => fun
  | [d] => { results := [.lit (.bool true)], args := [d] }
  | _ => none }
def fieldHalvesRow : OpenClaim := { program := "yticdlngpljdhkaa", sum := "3220e83e27d205630e5a938e9f519d870f5fb8f8e16a6a22bc2a3dc298adf11f", func := "imprimatur/imprimaturlaw04.FieldHalves", spec := "fieldHalves", inPlace := ["math/bits.Sub64", "math/bits.Add64"], apart := false }
def FieldHalvesSaid : Prop := fieldHalvesRow.holds Try.pinned (OpenSpec.ofChange fieldHalvesSpec)

/-- ITS FALSE NEIGHBOUR: 'it returns false'. Refute it at one input. -/
def fieldHalvesWrong : ChangeSpec := { name := "fieldHalves", fn := fun _ => fun
  | [d] => { results := [.lit (.bool false)], args := [d] }
  | _ => none }
def FieldHalvesWrongFalsely : Prop := fieldHalvesRow.holds Try.pinned (OpenSpec.ofChange fieldHalvesWrong)

/-- 'imprimaturlaw04.FieldBytes': WHATEVER THE INPUT: true; the input reads as it did. -/
def fieldBytesSpec : ChangeSpec := { name := "fieldBytes", fn := fun _ => fun
  | [d1, d2] => { results := [.lit (.bool true)], args := [d1, d2] }
  | _ => none }
def fieldBytesRow : OpenClaim := { program := "yticdlngpljdhkaa", sum := "3220e83e27d205630e5a938e9f519d870f5fb8f8e16a6a22bc2a3dc298adf11f", func := "imprimatur/imprimaturlaw04.FieldBytes", spec := "fieldBytes", inPlace := ["math/bits.Sub64", "math/bits.Add64"], apart := false }
def FieldBytesSaid : Prop := fieldBytesRow.holds Try.pinned (OpenSpec.ofChange fieldBytesSpec)

/-- ITS FALSE NEIGHBOUR: 'it returns false'. Refute it at one input. -/
def fieldBytesWrong : ChangeSpec := { name := "fieldBytes", fn := fun _ => fun
  | [d1, d2] => { results := [.lit (.bool false)], args := [d1, d2] }
  | _ => none }
def FieldBytesWrongFalsely : Prop := fieldBytesRow.holds Try.pinned (OpenSpec.ofChange fieldBytesWrong)

/-- 'imprimaturlaw04.FieldRoots': WHATEVER THE INPUT: true; the input reads as it did. -/
def fieldRootsSpec : ChangeSpec := { name := "fieldRoots", fn := fun _ => fun
  | [d] => { results := [.lit (.bool true)], args := [d] }
  | _ => none }
def fieldRootsRow : OpenClaim := { program := "yticdlngpljdhkaa", sum := "3220e83e27d205630e5a938e9f519d870f5fb8f8e16a6a22bc2a3dc298adf11f", func := "imprimatur/imprimaturlaw04.FieldRoots", spec := "fieldRoots", inPlace := ["math/bits.Add64", "math/bits.Sub64"], apart := false }
def FieldRootsSaid : Prop := fieldRootsRow.holds Try.pinned (OpenSpec.ofChange fieldRootsSpec)

/-- ITS FALSE NEIGHBOUR: 'it returns false'. Refute it at one input. -/
def fieldRootsWrong : ChangeSpec := { name := "fieldRoots", fn := fun _ => fun
  | [d] => { results := [.lit (.bool false)], args := [d] }
  | _ => none }
def FieldRootsWrongFalsely : Prop := fieldRootsRow.holds Try.pinned (OpenSpec.ofChange fieldRootsWrong)

/- THE SECOND FORM. 'bulk': how many values and letters a reading holds, each counted each time it is reached (what is shared counts as often as it is met; a slice's spare places count too). A statement '..UptoSaid' is the law's where the arguments, and the package variables that the reading takes, are together of bulk at most 1048576: NARROWER than '..Said'. Prove '..Said' where nothing that the law and all that it calls make is longer than what came in: it says more and counts as full. Else prove '..UptoSaid'. A law counts once. -/
mutual
def uptoBulk {H : Type} : DataW H → Nat
  | .lit (.string bytes) => bytes.length + 1
  | .lit _ => 1
  | .nil => 1
  | .ptr d => uptoBulk d + 1
  | .slice elems spare => uptoBulkAll elems + uptoBulkAll spare + 1
  | .agg parts => uptoBulkAll parts + 1
  | .iface _ d => uptoBulk d + 1
  | .map entries => uptoBulkEntries entries + 1
  | .held _ => 1
def uptoBulkAll {H : Type} : List (DataW H) → Nat
  | [] => 0
  | d :: r => uptoBulk d + uptoBulkAll r
def uptoBulkEntries {H : Type} : List (Lit × DataW H) → Nat
  | [] => 0
  | x :: r => uptoBulkEntry x + uptoBulkEntries r
def uptoBulkEntry {H : Type} : Lit × DataW H → Nat
  | (.string bytes, d) => bytes.length + uptoBulk d + 1
  | (_, d) => uptoBulk d + 1
 end
def uptoSmall : (H : Type) → List (DataW H) → Bool := fun _ ds => decide (uptoBulkAll ds ≤ 1048576)
def OpenSpec.upto (s : _root_.Go.ChangeSpec) : _root_.Go.OpenSpec := { _root_.Go.OpenSpec.ofChange s with cond := some uptoSmall }

/-- 'imprimaturlaw05.ScalarRules', WHERE WHAT IT READS IS OF BULK AT MOST 1048576: true; the input reads as it did. -/
def scalarRulesUptoRow : OpenClaim := { program := "yticdlngpljdhkaa", sum := "3220e83e27d205630e5a938e9f519d870f5fb8f8e16a6a22bc2a3dc298adf11f", func := "imprimatur/imprimaturlaw05.ScalarRules", spec := "scalarRules", inPlace := ["math/bits.Add64", "math/bits.Sub64"], unfollowed := true, recurses := true, apart := false, narrowed := true }
def ScalarRulesUptoSaid : Prop := scalarRulesUptoRow.holds Try.pinned (OpenSpec.upto scalarRulesSpec)

/-- 'imprimaturlaw05.ScalarReckons', WHERE WHAT IT READS IS OF BULK AT MOST 1048576: true; the input reads as it did. -/
def scalarReckonsUptoRow : OpenClaim := { program := "yticdlngpljdhkaa", sum := "3220e83e27d205630e5a938e9f519d870f5fb8f8e16a6a22bc2a3dc298adf11f", func := "imprimatur/imprimaturlaw05.ScalarReckons", spec := "scalarReckons", inPlace := ["math/bits.Add64", "math/bits.Sub64"], apart := false, narrowed := true }
def ScalarReckonsUptoSaid : Prop := scalarReckonsUptoRow.holds Try.pinned (OpenSpec.upto scalarReckonsSpec)

/-- 'imprimaturlaw05.ScalarJoins', WHERE WHAT IT READS IS OF BULK AT MOST 1048576: true; the input reads as it did. -/
def scalarJoinsUptoRow : OpenClaim := { program := "yticdlngpljdhkaa", sum := "3220e83e27d205630e5a938e9f519d870f5fb8f8e16a6a22bc2a3dc298adf11f", func := "imprimatur/imprimaturlaw05.ScalarJoins", spec := "scalarJoins", inPlace := ["math/bits.Sub64", "math/bits.Add64"], apart := false, narrowed := true }
def ScalarJoinsUptoSaid : Prop := scalarJoinsUptoRow.holds Try.pinned (OpenSpec.upto scalarJoinsSpec)

/-- 'imprimaturlaw04.FieldReckons', WHERE WHAT IT READS IS OF BULK AT MOST 1048576: true; the input reads as it did. -/
def fieldReckonsUptoRow : OpenClaim := { program := "yticdlngpljdhkaa", sum := "3220e83e27d205630e5a938e9f519d870f5fb8f8e16a6a22bc2a3dc298adf11f", func := "imprimatur/imprimaturlaw04.FieldReckons", spec := "fieldReckons", inPlace := ["math/bits.Add64", "math/bits.Sub64"], apart := false, narrowed := true }
def FieldReckonsUptoSaid : Prop := fieldReckonsUptoRow.holds Try.pinned (OpenSpec.upto fieldReckonsSpec)

/-- 'imprimaturlaw04.FieldRules', WHERE WHAT IT READS IS OF BULK AT MOST 1048576: true; the input reads as it did. -/
def fieldRulesUptoRow : OpenClaim := { program := "yticdlngpljdhkaa", sum := "3220e83e27d205630e5a938e9f519d870f5fb8f8e16a6a22bc2a3dc298adf11f", func := "imprimatur/imprimaturlaw04.FieldRules", spec := "fieldRules", inPlace := ["math/bits.Add64", "math/bits.Sub64"], unfollowed := true, recurses := true, apart := false, narrowed := true }
def FieldRulesUptoSaid : Prop := fieldRulesUptoRow.holds Try.pinned (OpenSpec.upto fieldRulesSpec)

/-- 'imprimaturlaw05.ScalarBytes', WHERE WHAT IT READS IS OF BULK AT MOST 1048576: true; the input reads as it did. -/
def scalarBytesUptoRow : OpenClaim := { program := "yticdlngpljdhkaa", sum := "3220e83e27d205630e5a938e9f519d870f5fb8f8e16a6a22bc2a3dc298adf11f", func := "imprimatur/imprimaturlaw05.ScalarBytes", spec := "scalarBytes", inPlace := ["math/bits.Sub64", "math/bits.Add64"], apart := false, narrowed := true }
def ScalarBytesUptoSaid : Prop := scalarBytesUptoRow.holds Try.pinned (OpenSpec.upto scalarBytesSpec)

/-- 'imprimaturlaw05.ScalarBack', WHERE WHAT IT READS IS OF BULK AT MOST 1048576: true; the input reads as it did. -/
def scalarBackUptoRow : OpenClaim := { program := "yticdlngpljdhkaa", sum := "3220e83e27d205630e5a938e9f519d870f5fb8f8e16a6a22bc2a3dc298adf11f", func := "imprimatur/imprimaturlaw05.ScalarBack", spec := "scalarBack", inPlace := ["math/bits.Sub64", "math/bits.Add64"], apart := false, narrowed := true }
def ScalarBackUptoSaid : Prop := scalarBackUptoRow.holds Try.pinned (OpenSpec.upto scalarBackSpec)

/-- 'imprimaturlaw04.FieldInverts', WHERE WHAT IT READS IS OF BULK AT MOST 1048576: true; the input reads as it did. -/
def fieldInvertsUptoRow : OpenClaim := { program := "yticdlngpljdhkaa", sum := "3220e83e27d205630e5a938e9f519d870f5fb8f8e16a6a22bc2a3dc298adf11f", func := "imprimatur/imprimaturlaw04.FieldInverts", spec := "fieldInverts", inPlace := ["math/bits.Sub64", "math/bits.Add64"], apart := false, narrowed := true }
def FieldInvertsUptoSaid : Prop := fieldInvertsUptoRow.holds Try.pinned (OpenSpec.upto fieldInvertsSpec)

/-- 'imprimaturlaw04.FieldHalves', WHERE WHAT IT READS IS OF BULK AT MOST 1048576: true; the input reads as it did. -/
def fieldHalvesUptoRow : OpenClaim := { program := "yticdlngpljdhkaa", sum := "3220e83e27d205630e5a938e9f519d870f5fb8f8e16a6a22bc2a3dc298adf11f", func := "imprimatur/imprimaturlaw04.FieldHalves", spec := "fieldHalves", inPlace := ["math/bits.Sub64", "math/bits.Add64"], apart := false, narrowed := true }
def FieldHalvesUptoSaid : Prop := fieldHalvesUptoRow.holds Try.pinned (OpenSpec.upto fieldHalvesSpec)

/-- 'imprimaturlaw04.FieldBytes', WHERE WHAT IT READS IS OF BULK AT MOST 1048576: true; the input reads as it did. -/
def fieldBytesUptoRow : OpenClaim := { program := "yticdlngpljdhkaa", sum := "3220e83e27d205630e5a938e9f519d870f5fb8f8e16a6a22bc2a3dc298adf11f", func := "imprimatur/imprimaturlaw04.FieldBytes", spec := "fieldBytes", inPlace := ["math/bits.Sub64", "math/bits.Add64"], apart := false, narrowed := true }
def FieldBytesUptoSaid : Prop := fieldBytesUptoRow.holds Try.pinned (OpenSpec.upto fieldBytesSpec)

/-- 'imprimaturlaw04.FieldRoots', WHERE WHAT IT READS IS OF BULK AT MOST 1048576: true; the input reads as it did. -/
def fieldRootsUptoRow : OpenClaim := { program := "yticdlngpljdhkaa", sum := "3220e83e27d205630e5a938e9f519d870f5fb8f8e16a6a22bc2a3dc298adf11f", func := "imprimatur/imprimaturlaw04.FieldRoots", spec := "fieldRoots", inPlace := ["math/bits.Add64", "math/bits.Sub64"], apart := false, narrowed := true }
def FieldRootsUptoSaid : Prop := fieldRootsUptoRow.holds Try.pinned (OpenSpec.upto fieldRootsSpec)

end Rows
end Go.Proofs.Yticdlngpljdhkaa
