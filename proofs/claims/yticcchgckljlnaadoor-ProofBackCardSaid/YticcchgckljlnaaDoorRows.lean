/-
  NARROWER THAN 'FOR EVERY INPUT', by the rows' own cells (each row's printed sentence says how): Sha256Sums: laid · Sha256Blocks: laid · Sha256Goes: laid · Sha256Pieces: laid · TreeRoots: laid · TreeHalves: laid · ProofMakes: laid · ProofSizes: laid · TreeKeeps: laid · ProofHolds: laid · TreeGoes: laid · TreeGrows: laid · TreeParts: laid · ProofClash: laid · ProofFollows: laid · ProofBack: laid.
  DERIVED. THE GIVEN ROWS OF THIS SEAT. 16 by the template 'for every input the law returns true; each argument reads behind the call as it read before'; 0 by the template 'total and deterministic' (their statements: YticcchgckljlnaaDoorTotals.lean).
  GIVEN WITH THE SEED: the statements are not yours to turn. If you find one false, say at which input.
  Laid BY PROGRAM, IN A SANDBOX (cutbox-rows.mjs): the forced cells as the released guide's own fill.sh prints them over the translation fce3a7d305adbcdf… (all of the seat's roots in one cut). By AI agents, Wed Nov 11 2026. No macro, syntax, notation, axiom, sorry.
-/
import Derived.Test.YticcchgckljlnaaDoorChecked
import GoSem.Claim
import GoSem.ClaimJoined
import GoSem.ClaimMapViews
import Derived.JoinedTies
import Derived.KernelRfl
namespace Go.Proofs.YticcchgckljlnaaDoor
/- THE CELL 'sum', in the pinned program and in every row, IS THE sha256 OF THE DUMP (.gsa) THAT YticcchgckljlnaaDoorProg.lean LOADS. Nothing in Lean hashes anything: it is a label: what it is worth is what the hold of that sum in a sandbox is worth. -/
noncomputable def Tryd.pinned : Pinned := { name := "yticcchgckljlnaadoor", sum := "fce3a7d305adbcdfd2930e9da5896a5c3f318eefdef4a1a817df57795508c29a", checked := Tryd.checked }
namespace Rows
def none {H : Type} : Left H := { results := [], args := [] }

/- WHAT THE LISTED PACKAGE-LEVEL VARIABLES READ AS WHEN THE CALL BEGINS. Each datum BY PROGRAM (the guide's laid-datum.mjs) off the statement by which the dump's own 'gosem.cut.vars' lays the variable. In a bare row this is a premise. The card (YticcchgckljlnaaDoorCards.lean) ties it to the program's text. -/
def laid_imprimatur_sha256_keys {H : Type} : DataW H := .agg [.lit (.int .u32 1116352408), .lit (.int .u32 1899447441), .lit (.int .u32 3049323471), .lit (.int .u32 3921009573), .lit (.int .u32 961987163), .lit (.int .u32 1508970993), .lit (.int .u32 2453635748), .lit (.int .u32 2870763221), .lit (.int .u32 3624381080), .lit (.int .u32 310598401), .lit (.int .u32 607225278), .lit (.int .u32 1426881987), .lit (.int .u32 1925078388), .lit (.int .u32 2162078206), .lit (.int .u32 2614888103), .lit (.int .u32 3248222580), .lit (.int .u32 3835390401), .lit (.int .u32 4022224774), .lit (.int .u32 264347078), .lit (.int .u32 604807628), .lit (.int .u32 770255983), .lit (.int .u32 1249150122), .lit (.int .u32 1555081692), .lit (.int .u32 1996064986), .lit (.int .u32 2554220882), .lit (.int .u32 2821834349), .lit (.int .u32 2952996808), .lit (.int .u32 3210313671), .lit (.int .u32 3336571891), .lit (.int .u32 3584528711), .lit (.int .u32 113926993), .lit (.int .u32 338241895), .lit (.int .u32 666307205), .lit (.int .u32 773529912), .lit (.int .u32 1294757372), .lit (.int .u32 1396182291), .lit (.int .u32 1695183700), .lit (.int .u32 1986661051), .lit (.int .u32 2177026350), .lit (.int .u32 2456956037), .lit (.int .u32 2730485921), .lit (.int .u32 2820302411), .lit (.int .u32 3259730800), .lit (.int .u32 3345764771), .lit (.int .u32 3516065817), .lit (.int .u32 3600352804), .lit (.int .u32 4094571909), .lit (.int .u32 275423344), .lit (.int .u32 430227734), .lit (.int .u32 506948616), .lit (.int .u32 659060556), .lit (.int .u32 883997877), .lit (.int .u32 958139571), .lit (.int .u32 1322822218), .lit (.int .u32 1537002063), .lit (.int .u32 1747873779), .lit (.int .u32 1955562222), .lit (.int .u32 2024104815), .lit (.int .u32 2227730452), .lit (.int .u32 2361852424), .lit (.int .u32 2428436474), .lit (.int .u32 2756734187), .lit (.int .u32 3204031479), .lit (.int .u32 3329325298)]

/-- 'imprimaturlaw02.Sha256Sums': WHATEVER THE INPUT: true; the input reads as it did. -/
def sha256SumsSpec : ChangeSpec := { name := "sha256Sums", fn := fun _ => fun
  | [d] => { results := [.lit (.bool true)], args := [d] }
  | _ => none }
def sha256SumsRow : OpenClaim := { program := "yticcchgckljlnaadoor", sum := "fce3a7d305adbcdfd2930e9da5896a5c3f318eefdef4a1a817df57795508c29a", func := "imprimatur/imprimaturlaw02.Sha256Sums", spec := "sha256Sums", inPlace := ["internal/abi.NoEscape"], named := ["imprimatur/sha256.keys"], apart := false, laid := [("imprimatur/sha256.keys", laid_imprimatur_sha256_keys)] }
def Sha256SumsSaid : Prop := sha256SumsRow.holds Tryd.pinned (OpenSpec.ofChange sha256SumsSpec)

/-- ITS FALSE NEIGHBOUR: 'it returns false'. Refute it at one input. -/
def sha256SumsWrong : ChangeSpec := { name := "sha256Sums", fn := fun _ => fun
  | [d] => { results := [.lit (.bool false)], args := [d] }
  | _ => none }
def Sha256SumsWrongFalsely : Prop := sha256SumsRow.holds Tryd.pinned (OpenSpec.ofChange sha256SumsWrong)

/-- 'imprimaturlaw02.Sha256Blocks': WHATEVER THE INPUT: true; the input reads as it did. -/
def sha256BlocksSpec : ChangeSpec := { name := "sha256Blocks", fn := fun _ => fun
  | [d1, d2, d3] => { results := [.lit (.bool true)], args := [d1, d2, d3] }
  | _ => none }
def sha256BlocksRow : OpenClaim := { program := "yticcchgckljlnaadoor", sum := "fce3a7d305adbcdfd2930e9da5896a5c3f318eefdef4a1a817df57795508c29a", func := "imprimatur/imprimaturlaw02.Sha256Blocks", spec := "sha256Blocks", inPlace := ["internal/abi.NoEscape"], named := ["imprimatur/sha256.keys"], apart := false, laid := [("imprimatur/sha256.keys", laid_imprimatur_sha256_keys)] }
def Sha256BlocksSaid : Prop := sha256BlocksRow.holds Tryd.pinned (OpenSpec.ofChange sha256BlocksSpec)

/-- ITS FALSE NEIGHBOUR: 'it returns false'. Refute it at one input. -/
def sha256BlocksWrong : ChangeSpec := { name := "sha256Blocks", fn := fun _ => fun
  | [d1, d2, d3] => { results := [.lit (.bool false)], args := [d1, d2, d3] }
  | _ => none }
def Sha256BlocksWrongFalsely : Prop := sha256BlocksRow.holds Tryd.pinned (OpenSpec.ofChange sha256BlocksWrong)

/-- 'imprimaturlaw02.Sha256Goes': WHATEVER THE INPUT: true; the input reads as it did. -/
def sha256GoesSpec : ChangeSpec := { name := "sha256Goes", fn := fun _ => fun
  | [d1, d2] => { results := [.lit (.bool true)], args := [d1, d2] }
  | _ => none }
def sha256GoesRow : OpenClaim := { program := "yticcchgckljlnaadoor", sum := "fce3a7d305adbcdfd2930e9da5896a5c3f318eefdef4a1a817df57795508c29a", func := "imprimatur/imprimaturlaw02.Sha256Goes", spec := "sha256Goes", inPlace := ["internal/abi.NoEscape"], named := ["imprimatur/sha256.keys"], apart := false, laid := [("imprimatur/sha256.keys", laid_imprimatur_sha256_keys)] }
def Sha256GoesSaid : Prop := sha256GoesRow.holds Tryd.pinned (OpenSpec.ofChange sha256GoesSpec)

/-- ITS FALSE NEIGHBOUR: 'it returns false'. Refute it at one input. -/
def sha256GoesWrong : ChangeSpec := { name := "sha256Goes", fn := fun _ => fun
  | [d1, d2] => { results := [.lit (.bool false)], args := [d1, d2] }
  | _ => none }
def Sha256GoesWrongFalsely : Prop := sha256GoesRow.holds Tryd.pinned (OpenSpec.ofChange sha256GoesWrong)

/-- 'imprimaturlaw02.Sha256Pieces': WHATEVER THE INPUT: true; the input reads as it did. -/
def sha256PiecesSpec : ChangeSpec := { name := "sha256Pieces", fn := fun _ => fun
  | [d1, d2] => { results := [.lit (.bool true)], args := [d1, d2] }
  | _ => none }
def sha256PiecesRow : OpenClaim := { program := "yticcchgckljlnaadoor", sum := "fce3a7d305adbcdfd2930e9da5896a5c3f318eefdef4a1a817df57795508c29a", func := "imprimatur/imprimaturlaw02.Sha256Pieces", spec := "sha256Pieces", inPlace := ["internal/abi.NoEscape"], named := ["imprimatur/sha256.keys"], apart := false, laid := [("imprimatur/sha256.keys", laid_imprimatur_sha256_keys)] }
def Sha256PiecesSaid : Prop := sha256PiecesRow.holds Tryd.pinned (OpenSpec.ofChange sha256PiecesSpec)

/-- ITS FALSE NEIGHBOUR: 'it returns false'. Refute it at one input. -/
def sha256PiecesWrong : ChangeSpec := { name := "sha256Pieces", fn := fun _ => fun
  | [d1, d2] => { results := [.lit (.bool false)], args := [d1, d2] }
  | _ => none }
def Sha256PiecesWrongFalsely : Prop := sha256PiecesRow.holds Tryd.pinned (OpenSpec.ofChange sha256PiecesWrong)

/-- 'imprimaturlaw08.TreeRoots': WHATEVER THE INPUT: true; the input reads as it did. -/
def treeRootsSpec : ChangeSpec := { name := "treeRoots", fn := fun _ => fun
  | [d1, d2] => { results := [.lit (.bool true)], args := [d1, d2] }
  | _ => none }
def treeRootsRow : OpenClaim := { program := "yticcchgckljlnaadoor", sum := "fce3a7d305adbcdfd2930e9da5896a5c3f318eefdef4a1a817df57795508c29a", func := "imprimatur/imprimaturlaw08.TreeRoots", spec := "treeRoots", inPlace := ["internal/abi.NoEscape"], unfollowed := true, recurses := true, named := ["imprimatur/sha256.keys"], apart := false, laid := [("imprimatur/sha256.keys", laid_imprimatur_sha256_keys)] }
def TreeRootsSaid : Prop := treeRootsRow.holds Tryd.pinned (OpenSpec.ofChange treeRootsSpec)

/-- ITS FALSE NEIGHBOUR: 'it returns false'. Refute it at one input. -/
def treeRootsWrong : ChangeSpec := { name := "treeRoots", fn := fun _ => fun
  | [d1, d2] => { results := [.lit (.bool false)], args := [d1, d2] }
  | _ => none }
def TreeRootsWrongFalsely : Prop := treeRootsRow.holds Tryd.pinned (OpenSpec.ofChange treeRootsWrong)

/-- 'imprimaturlaw08.TreeHalves': WHATEVER THE INPUT: true; the input reads as it did. -/
def treeHalvesSpec : ChangeSpec := { name := "treeHalves", fn := fun _ => fun
  | [d1, d2] => { results := [.lit (.bool true)], args := [d1, d2] }
  | _ => none }
def treeHalvesRow : OpenClaim := { program := "yticcchgckljlnaadoor", sum := "fce3a7d305adbcdfd2930e9da5896a5c3f318eefdef4a1a817df57795508c29a", func := "imprimatur/imprimaturlaw08.TreeHalves", spec := "treeHalves", inPlace := ["internal/abi.NoEscape"], unfollowed := true, recurses := true, named := ["imprimatur/sha256.keys"], apart := false, laid := [("imprimatur/sha256.keys", laid_imprimatur_sha256_keys)] }
def TreeHalvesSaid : Prop := treeHalvesRow.holds Tryd.pinned (OpenSpec.ofChange treeHalvesSpec)

/-- ITS FALSE NEIGHBOUR: 'it returns false'. Refute it at one input. -/
def treeHalvesWrong : ChangeSpec := { name := "treeHalves", fn := fun _ => fun
  | [d1, d2] => { results := [.lit (.bool false)], args := [d1, d2] }
  | _ => none }
def TreeHalvesWrongFalsely : Prop := treeHalvesRow.holds Tryd.pinned (OpenSpec.ofChange treeHalvesWrong)

/-- 'imprimaturlaw09.ProofMakes': WHATEVER THE INPUT: true; the input reads as it did. -/
def proofMakesSpec : ChangeSpec := { name := "proofMakes", fn := fun _ => fun
  | [d1, d2, d3] => { results := [.lit (.bool true)], args := [d1, d2, d3] }
  | _ => none }
def proofMakesRow : OpenClaim := { program := "yticcchgckljlnaadoor", sum := "fce3a7d305adbcdfd2930e9da5896a5c3f318eefdef4a1a817df57795508c29a", func := "imprimatur/imprimaturlaw09.ProofMakes", spec := "proofMakes", inPlace := ["internal/abi.NoEscape"], unfollowed := true, recurses := true, named := ["imprimatur/sha256.keys"], apart := false, laid := [("imprimatur/sha256.keys", laid_imprimatur_sha256_keys)] }
def ProofMakesSaid : Prop := proofMakesRow.holds Tryd.pinned (OpenSpec.ofChange proofMakesSpec)

/-- ITS FALSE NEIGHBOUR: 'it returns false'. Refute it at one input. -/
def proofMakesWrong : ChangeSpec := { name := "proofMakes", fn := fun _ => fun
  | [d1, d2, d3] => { results := [.lit (.bool false)], args := [d1, d2, d3] }
  | _ => none }
def ProofMakesWrongFalsely : Prop := proofMakesRow.holds Tryd.pinned (OpenSpec.ofChange proofMakesWrong)

/-- 'imprimaturlaw09.ProofSizes': WHATEVER THE INPUT: true; the input reads as it did. -/
def proofSizesSpec : ChangeSpec := { name := "proofSizes", fn := fun _ => fun
  | [d1, d2] => { results := [.lit (.bool true)], args := [d1, d2] }
  | _ => none }
def proofSizesRow : OpenClaim := { program := "yticcchgckljlnaadoor", sum := "fce3a7d305adbcdfd2930e9da5896a5c3f318eefdef4a1a817df57795508c29a", func := "imprimatur/imprimaturlaw09.ProofSizes", spec := "proofSizes", inPlace := ["internal/abi.NoEscape"], unfollowed := true, recurses := true, named := ["imprimatur/sha256.keys"], apart := false, laid := [("imprimatur/sha256.keys", laid_imprimatur_sha256_keys)] }
def ProofSizesSaid : Prop := proofSizesRow.holds Tryd.pinned (OpenSpec.ofChange proofSizesSpec)

/-- ITS FALSE NEIGHBOUR: 'it returns false'. Refute it at one input. -/
def proofSizesWrong : ChangeSpec := { name := "proofSizes", fn := fun _ => fun
  | [d1, d2] => { results := [.lit (.bool false)], args := [d1, d2] }
  | _ => none }
def ProofSizesWrongFalsely : Prop := proofSizesRow.holds Tryd.pinned (OpenSpec.ofChange proofSizesWrong)

/-- 'imprimaturlaw08.TreeKeeps': WHATEVER THE INPUT: true; the input reads as it did. -/
def treeKeepsSpec : ChangeSpec := { name := "treeKeeps", fn := fun _ => fun
  | [d1, d2, d3] => { results := [.lit (.bool true)], args := [d1, d2, d3] }
  | _ => none }
def treeKeepsRow : OpenClaim := { program := "yticcchgckljlnaadoor", sum := "fce3a7d305adbcdfd2930e9da5896a5c3f318eefdef4a1a817df57795508c29a", func := "imprimatur/imprimaturlaw08.TreeKeeps", spec := "treeKeeps", inPlace := ["internal/abi.NoEscape"], unfollowed := true, recurses := true, named := ["imprimatur/sha256.keys"], apart := false, laid := [("imprimatur/sha256.keys", laid_imprimatur_sha256_keys)] }
def TreeKeepsSaid : Prop := treeKeepsRow.holds Tryd.pinned (OpenSpec.ofChange treeKeepsSpec)

/-- ITS FALSE NEIGHBOUR: 'it returns false'. Refute it at one input. -/
def treeKeepsWrong : ChangeSpec := { name := "treeKeeps", fn := fun _ => fun
  | [d1, d2, d3] => { results := [.lit (.bool false)], args := [d1, d2, d3] }
  | _ => none }
def TreeKeepsWrongFalsely : Prop := treeKeepsRow.holds Tryd.pinned (OpenSpec.ofChange treeKeepsWrong)

/-- 'imprimaturlaw09.ProofHolds': WHATEVER THE INPUT: true; the input reads as it did. -/
def proofHoldsSpec : ChangeSpec := { name := "proofHolds", fn := fun _ => fun
  | [d1, d2, d3, d4, d5] => { results := [.lit (.bool true)], args := [d1, d2, d3, d4, d5] }
  | _ => none }
def proofHoldsRow : OpenClaim := { program := "yticcchgckljlnaadoor", sum := "fce3a7d305adbcdfd2930e9da5896a5c3f318eefdef4a1a817df57795508c29a", func := "imprimatur/imprimaturlaw09.ProofHolds", spec := "proofHolds", inPlace := ["internal/abi.NoEscape"], unfollowed := true, recurses := true, named := ["imprimatur/sha256.keys"], apart := false, laid := [("imprimatur/sha256.keys", laid_imprimatur_sha256_keys)] }
def ProofHoldsSaid : Prop := proofHoldsRow.holds Tryd.pinned (OpenSpec.ofChange proofHoldsSpec)

/-- ITS FALSE NEIGHBOUR: 'it returns false'. Refute it at one input. -/
def proofHoldsWrong : ChangeSpec := { name := "proofHolds", fn := fun _ => fun
  | [d1, d2, d3, d4, d5] => { results := [.lit (.bool false)], args := [d1, d2, d3, d4, d5] }
  | _ => none }
def ProofHoldsWrongFalsely : Prop := proofHoldsRow.holds Tryd.pinned (OpenSpec.ofChange proofHoldsWrong)

/-- 'imprimaturlaw08.TreeGoes': WHATEVER THE INPUT: true; the input reads as it did. -/
def treeGoesSpec : ChangeSpec := { name := "treeGoes", fn := fun _ => fun
  | [d1, d2] => { results := [.lit (.bool true)], args := [d1, d2] }
  | _ => none }
def treeGoesRow : OpenClaim := { program := "yticcchgckljlnaadoor", sum := "fce3a7d305adbcdfd2930e9da5896a5c3f318eefdef4a1a817df57795508c29a", func := "imprimatur/imprimaturlaw08.TreeGoes", spec := "treeGoes", inPlace := ["internal/abi.NoEscape"], unfollowed := true, recurses := true, named := ["imprimatur/sha256.keys"], apart := false, laid := [("imprimatur/sha256.keys", laid_imprimatur_sha256_keys)] }
def TreeGoesSaid : Prop := treeGoesRow.holds Tryd.pinned (OpenSpec.ofChange treeGoesSpec)

/-- ITS FALSE NEIGHBOUR: 'it returns false'. Refute it at one input. -/
def treeGoesWrong : ChangeSpec := { name := "treeGoes", fn := fun _ => fun
  | [d1, d2] => { results := [.lit (.bool false)], args := [d1, d2] }
  | _ => none }
def TreeGoesWrongFalsely : Prop := treeGoesRow.holds Tryd.pinned (OpenSpec.ofChange treeGoesWrong)

/-- 'imprimaturlaw08.TreeGrows': WHATEVER THE INPUT: true; the input reads as it did. -/
def treeGrowsSpec : ChangeSpec := { name := "treeGrows", fn := fun _ => fun
  | [d1, d2] => { results := [.lit (.bool true)], args := [d1, d2] }
  | _ => none }
def treeGrowsRow : OpenClaim := { program := "yticcchgckljlnaadoor", sum := "fce3a7d305adbcdfd2930e9da5896a5c3f318eefdef4a1a817df57795508c29a", func := "imprimatur/imprimaturlaw08.TreeGrows", spec := "treeGrows", inPlace := ["internal/abi.NoEscape"], unfollowed := true, recurses := true, named := ["imprimatur/sha256.keys"], apart := false, laid := [("imprimatur/sha256.keys", laid_imprimatur_sha256_keys)] }
def TreeGrowsSaid : Prop := treeGrowsRow.holds Tryd.pinned (OpenSpec.ofChange treeGrowsSpec)

/-- ITS FALSE NEIGHBOUR: 'it returns false'. Refute it at one input. -/
def treeGrowsWrong : ChangeSpec := { name := "treeGrows", fn := fun _ => fun
  | [d1, d2] => { results := [.lit (.bool false)], args := [d1, d2] }
  | _ => none }
def TreeGrowsWrongFalsely : Prop := treeGrowsRow.holds Tryd.pinned (OpenSpec.ofChange treeGrowsWrong)

/-- 'imprimaturlaw08.TreeParts': WHATEVER THE INPUT: true; the input reads as it did. -/
def treePartsSpec : ChangeSpec := { name := "treeParts", fn := fun _ => fun
  | [d1, d2] => { results := [.lit (.bool true)], args := [d1, d2] }
  | _ => none }
def treePartsRow : OpenClaim := { program := "yticcchgckljlnaadoor", sum := "fce3a7d305adbcdfd2930e9da5896a5c3f318eefdef4a1a817df57795508c29a", func := "imprimatur/imprimaturlaw08.TreeParts", spec := "treeParts", inPlace := ["internal/abi.NoEscape"], unfollowed := true, recurses := true, named := ["imprimatur/sha256.keys"], apart := false, laid := [("imprimatur/sha256.keys", laid_imprimatur_sha256_keys)] }
def TreePartsSaid : Prop := treePartsRow.holds Tryd.pinned (OpenSpec.ofChange treePartsSpec)

/-- ITS FALSE NEIGHBOUR: 'it returns false'. Refute it at one input. -/
def treePartsWrong : ChangeSpec := { name := "treeParts", fn := fun _ => fun
  | [d1, d2] => { results := [.lit (.bool false)], args := [d1, d2] }
  | _ => none }
def TreePartsWrongFalsely : Prop := treePartsRow.holds Tryd.pinned (OpenSpec.ofChange treePartsWrong)

/-- 'imprimaturlaw09.ProofClash': WHATEVER THE INPUT: true; the input reads as it did. -/
def proofClashSpec : ChangeSpec := { name := "proofClash", fn := fun _ => fun
  | [d1, d2, d3, d4, d5, d6] => { results := [.lit (.bool true)], args := [d1, d2, d3, d4, d5, d6] }
  | _ => none }
def proofClashRow : OpenClaim := { program := "yticcchgckljlnaadoor", sum := "fce3a7d305adbcdfd2930e9da5896a5c3f318eefdef4a1a817df57795508c29a", func := "imprimatur/imprimaturlaw09.ProofClash", spec := "proofClash", inPlace := ["internal/abi.NoEscape"], unfollowed := true, recurses := true, named := ["imprimatur/sha256.keys"], apart := false, laid := [("imprimatur/sha256.keys", laid_imprimatur_sha256_keys)] }
def ProofClashSaid : Prop := proofClashRow.holds Tryd.pinned (OpenSpec.ofChange proofClashSpec)

/-- ITS FALSE NEIGHBOUR: 'it returns false'. Refute it at one input. -/
def proofClashWrong : ChangeSpec := { name := "proofClash", fn := fun _ => fun
  | [d1, d2, d3, d4, d5, d6] => { results := [.lit (.bool false)], args := [d1, d2, d3, d4, d5, d6] }
  | _ => none }
def ProofClashWrongFalsely : Prop := proofClashRow.holds Tryd.pinned (OpenSpec.ofChange proofClashWrong)

/-- 'imprimaturlaw09.ProofFollows': WHATEVER THE INPUT: true; the input reads as it did. -/
def proofFollowsSpec : ChangeSpec := { name := "proofFollows", fn := fun _ => fun
  | [d1, d2, d3, d4, d5] => { results := [.lit (.bool true)], args := [d1, d2, d3, d4, d5] }
  | _ => none }
def proofFollowsRow : OpenClaim := { program := "yticcchgckljlnaadoor", sum := "fce3a7d305adbcdfd2930e9da5896a5c3f318eefdef4a1a817df57795508c29a", func := "imprimatur/imprimaturlaw09.ProofFollows", spec := "proofFollows", inPlace := ["internal/abi.NoEscape"], unfollowed := true, recurses := true, named := ["imprimatur/sha256.keys"], apart := false, laid := [("imprimatur/sha256.keys", laid_imprimatur_sha256_keys)] }
def ProofFollowsSaid : Prop := proofFollowsRow.holds Tryd.pinned (OpenSpec.ofChange proofFollowsSpec)

/-- ITS FALSE NEIGHBOUR: 'it returns false'. Refute it at one input. -/
def proofFollowsWrong : ChangeSpec := { name := "proofFollows", fn := fun _ => fun
  | [d1, d2, d3, d4, d5] => { results := [.lit (.bool false)], args := [d1, d2, d3, d4, d5] }
  | _ => none }
def ProofFollowsWrongFalsely : Prop := proofFollowsRow.holds Tryd.pinned (OpenSpec.ofChange proofFollowsWrong)

/-- 'imprimaturlaw09.ProofBack': WHATEVER THE INPUT: true; the input reads as it did. -/
def proofBackSpec : ChangeSpec := { name := "proofBack", fn := fun _ => fun
  | [d1, d2, d3] => { results := [.lit (.bool true)], args := [d1, d2, d3] }
  | _ => none }
def proofBackRow : OpenClaim := { program := "yticcchgckljlnaadoor", sum := "fce3a7d305adbcdfd2930e9da5896a5c3f318eefdef4a1a817df57795508c29a", func := "imprimatur/imprimaturlaw09.ProofBack", spec := "proofBack", inPlace := ["internal/abi.NoEscape"], unfollowed := true, recurses := true, named := ["imprimatur/sha256.keys"], apart := false, laid := [("imprimatur/sha256.keys", laid_imprimatur_sha256_keys)] }
def ProofBackSaid : Prop := proofBackRow.holds Tryd.pinned (OpenSpec.ofChange proofBackSpec)

/-- ITS FALSE NEIGHBOUR: 'it returns false'. Refute it at one input. -/
def proofBackWrong : ChangeSpec := { name := "proofBack", fn := fun _ => fun
  | [d1, d2, d3] => { results := [.lit (.bool false)], args := [d1, d2, d3] }
  | _ => none }
def ProofBackWrongFalsely : Prop := proofBackRow.holds Tryd.pinned (OpenSpec.ofChange proofBackWrong)

/- THE SECOND FORM. 'bulk': how many values and letters a reading holds, each counted each time it is reached (what is shared counts as often as it is met; a slice's spare places count too). A statement '..UptoSaid' is the law's where the arguments, and the package variables that the reading takes, are together of bulk at most 1048576: NARROWER than '..Said'. Prove '..Said' where nothing that the law and all that it calls make is longer than what came in: it says more and counts as full. Else prove '..UptoSaid'. A law counts once. -/
mutual
def uptoBulk {H : Type} : DataW H → Nat
  | .lit (.string bytes) => bytes.length + 1
  | .lit _ => 1
  | .nil => 1
  | .ptr d => uptoBulk d + 1
  | .slice elems spare => uptoBulkAll elems + uptoBulkAll spare + 1
  | .agg parts => uptoBulkAll parts + 1
  | .iface _ d => uptoBulk d + 1
  | .map entries => uptoBulkEntries entries + 1
  | .held _ => 1
def uptoBulkAll {H : Type} : List (DataW H) → Nat
  | [] => 0
  | d :: r => uptoBulk d + uptoBulkAll r
def uptoBulkEntries {H : Type} : List (Lit × DataW H) → Nat
  | [] => 0
  | x :: r => uptoBulkEntry x + uptoBulkEntries r
def uptoBulkEntry {H : Type} : Lit × DataW H → Nat
  | (.string bytes, d) => bytes.length + uptoBulk d + 1
  | (_, d) => uptoBulk d + 1
 end
def uptoSmall : (H : Type) → List (DataW H) → Bool := fun _ ds => decide (uptoBulkAll ds ≤ 1048576)
def OpenSpec.upto (s : _root_.Go.ChangeSpec) : _root_.Go.OpenSpec := { _root_.Go.OpenSpec.ofChange s with cond := some uptoSmall }

/-- 'imprimaturlaw02.Sha256Sums', WHERE WHAT IT READS IS OF BULK AT MOST 1048576: true; the input reads as it did. -/
def sha256SumsUptoRow : OpenClaim := { program := "yticcchgckljlnaadoor", sum := "fce3a7d305adbcdfd2930e9da5896a5c3f318eefdef4a1a817df57795508c29a", func := "imprimatur/imprimaturlaw02.Sha256Sums", spec := "sha256Sums", inPlace := ["internal/abi.NoEscape"], named := ["imprimatur/sha256.keys"], apart := false, laid := [("imprimatur/sha256.keys", laid_imprimatur_sha256_keys)], narrowed := true }
def Sha256SumsUptoSaid : Prop := sha256SumsUptoRow.holds Tryd.pinned (OpenSpec.upto sha256SumsSpec)

/-- 'imprimaturlaw02.Sha256Blocks', WHERE WHAT IT READS IS OF BULK AT MOST 1048576: true; the input reads as it did. -/
def sha256BlocksUptoRow : OpenClaim := { program := "yticcchgckljlnaadoor", sum := "fce3a7d305adbcdfd2930e9da5896a5c3f318eefdef4a1a817df57795508c29a", func := "imprimatur/imprimaturlaw02.Sha256Blocks", spec := "sha256Blocks", inPlace := ["internal/abi.NoEscape"], named := ["imprimatur/sha256.keys"], apart := false, laid := [("imprimatur/sha256.keys", laid_imprimatur_sha256_keys)], narrowed := true }
def Sha256BlocksUptoSaid : Prop := sha256BlocksUptoRow.holds Tryd.pinned (OpenSpec.upto sha256BlocksSpec)

/-- 'imprimaturlaw02.Sha256Goes', WHERE WHAT IT READS IS OF BULK AT MOST 1048576: true; the input reads as it did. -/
def sha256GoesUptoRow : OpenClaim := { program := "yticcchgckljlnaadoor", sum := "fce3a7d305adbcdfd2930e9da5896a5c3f318eefdef4a1a817df57795508c29a", func := "imprimatur/imprimaturlaw02.Sha256Goes", spec := "sha256Goes", inPlace := ["internal/abi.NoEscape"], named := ["imprimatur/sha256.keys"], apart := false, laid := [("imprimatur/sha256.keys", laid_imprimatur_sha256_keys)], narrowed := true }
def Sha256GoesUptoSaid : Prop := sha256GoesUptoRow.holds Tryd.pinned (OpenSpec.upto sha256GoesSpec)

/-- 'imprimaturlaw02.Sha256Pieces', WHERE WHAT IT READS IS OF BULK AT MOST 1048576: true; the input reads as it did. -/
def sha256PiecesUptoRow : OpenClaim := { program := "yticcchgckljlnaadoor", sum := "fce3a7d305adbcdfd2930e9da5896a5c3f318eefdef4a1a817df57795508c29a", func := "imprimatur/imprimaturlaw02.Sha256Pieces", spec := "sha256Pieces", inPlace := ["internal/abi.NoEscape"], named := ["imprimatur/sha256.keys"], apart := false, laid := [("imprimatur/sha256.keys", laid_imprimatur_sha256_keys)], narrowed := true }
def Sha256PiecesUptoSaid : Prop := sha256PiecesUptoRow.holds Tryd.pinned (OpenSpec.upto sha256PiecesSpec)

/-- 'imprimaturlaw08.TreeRoots', WHERE WHAT IT READS IS OF BULK AT MOST 1048576: true; the input reads as it did. -/
def treeRootsUptoRow : OpenClaim := { program := "yticcchgckljlnaadoor", sum := "fce3a7d305adbcdfd2930e9da5896a5c3f318eefdef4a1a817df57795508c29a", func := "imprimatur/imprimaturlaw08.TreeRoots", spec := "treeRoots", inPlace := ["internal/abi.NoEscape"], unfollowed := true, recurses := true, named := ["imprimatur/sha256.keys"], apart := false, laid := [("imprimatur/sha256.keys", laid_imprimatur_sha256_keys)], narrowed := true }
def TreeRootsUptoSaid : Prop := treeRootsUptoRow.holds Tryd.pinned (OpenSpec.upto treeRootsSpec)

/-- 'imprimaturlaw08.TreeHalves', WHERE WHAT IT READS IS OF BULK AT MOST 1048576: true; the input reads as it did. -/
def treeHalvesUptoRow : OpenClaim := { program := "yticcchgckljlnaadoor", sum := "fce3a7d305adbcdfd2930e9da5896a5c3f318eefdef4a1a817df57795508c29a", func := "imprimatur/imprimaturlaw08.TreeHalves", spec := "treeHalves", inPlace := ["internal/abi.NoEscape"], unfollowed := true, recurses := true, named := ["imprimatur/sha256.keys"], apart := false, laid := [("imprimatur/sha256.keys", laid_imprimatur_sha256_keys)], narrowed := true }
def TreeHalvesUptoSaid : Prop := treeHalvesUptoRow.holds Tryd.pinned (OpenSpec.upto treeHalvesSpec)

/-- 'imprimaturlaw09.ProofMakes', WHERE WHAT IT READS IS OF BULK AT MOST 1048576: true; the input reads as it did. -/
def proofMakesUptoRow : OpenClaim := { program := "yticcchgckljlnaadoor", sum := "fce3a7d305adbcdfd2930e9da5896a5c3f318eefdef4a1a817df57795508c29a", func := "imprimatur/imprimaturlaw09.ProofMakes", spec := "proofMakes", inPlace := ["internal/abi.NoEscape"], unfollowed := true, recurses := true, named := ["imprimatur/sha256.keys"], apart := false, laid := [("imprimatur/sha256.keys", laid_imprimatur_sha256_keys)], narrowed := true }
def ProofMakesUptoSaid : Prop := proofMakesUptoRow.holds Tryd.pinned (OpenSpec.upto proofMakesSpec)

/-- 'imprimaturlaw09.ProofSizes', WHERE WHAT IT READS IS OF BULK AT MOST 1048576: true; the input reads as it did. -/
def proofSizesUptoRow : OpenClaim := { program := "yticcchgckljlnaadoor", sum := "fce3a7d305adbcdfd2930e9da5896a5c3f318eefdef4a1a817df57795508c29a", func := "imprimatur/imprimaturlaw09.ProofSizes", spec := "proofSizes", inPlace := ["internal/abi.NoEscape"], unfollowed := true, recurses := true, named := ["imprimatur/sha256.keys"], apart := false, laid := [("imprimatur/sha256.keys", laid_imprimatur_sha256_keys)], narrowed := true }
def ProofSizesUptoSaid : Prop := proofSizesUptoRow.holds Tryd.pinned (OpenSpec.upto proofSizesSpec)

/-- 'imprimaturlaw08.TreeKeeps', WHERE WHAT IT READS IS OF BULK AT MOST 1048576: true; the input reads as it did. -/
def treeKeepsUptoRow : OpenClaim := { program := "yticcchgckljlnaadoor", sum := "fce3a7d305adbcdfd2930e9da5896a5c3f318eefdef4a1a817df57795508c29a", func := "imprimatur/imprimaturlaw08.TreeKeeps", spec := "treeKeeps", inPlace := ["internal/abi.NoEscape"], unfollowed := true, recurses := true, named := ["imprimatur/sha256.keys"], apart := false, laid := [("imprimatur/sha256.keys", laid_imprimatur_sha256_keys)], narrowed := true }
def TreeKeepsUptoSaid : Prop := treeKeepsUptoRow.holds Tryd.pinned (OpenSpec.upto treeKeepsSpec)

/-- 'imprimaturlaw09.ProofHolds', WHERE WHAT IT READS IS OF BULK AT MOST 1048576: true; the input reads as it did. -/
def proofHoldsUptoRow : OpenClaim := { program := "yticcchgckljlnaadoor", sum := "fce3a7d305adbcdfd2930e9da5896a5c3f318eefdef4a1a817df57795508c29a", func := "imprimatur/imprimaturlaw09.ProofHolds", spec := "proofHolds", inPlace := ["internal/abi.NoEscape"], unfollowed := true, recurses := true, named := ["imprimatur/sha256.keys"], apart := false, laid := [("imprimatur/sha256.keys", laid_imprimatur_sha256_keys)], narrowed := true }
def ProofHoldsUptoSaid : Prop := proofHoldsUptoRow.holds Tryd.pinned (OpenSpec.upto proofHoldsSpec)

/-- 'imprimaturlaw08.TreeGoes', WHERE WHAT IT READS IS OF BULK AT MOST 1048576: true; the input reads as it did. -/
def treeGoesUptoRow : OpenClaim := { program := "yticcchgckljlnaadoor", sum := "fce3a7d305adbcdfd2930e9da5896a5c3f318eefdef4a1a817df57795508c29a", func := "imprimatur/imprimaturlaw08.TreeGoes", spec := "treeGoes", inPlace := ["internal/abi.NoEscape"], unfollowed := true, recurses := true, named := ["imprimatur/sha256.keys"], apart := false, laid := [("imprimatur/sha256.keys", laid_imprimatur_sha256_keys)], narrowed := true }
def TreeGoesUptoSaid : Prop := treeGoesUptoRow.holds Tryd.pinned (OpenSpec.upto treeGoesSpec)

/-- 'imprimaturlaw08.TreeGrows', WHERE WHAT IT READS IS OF BULK AT MOST 1048576: true; the input reads as it did. -/
def treeGrowsUptoRow : OpenClaim := { program := "yticcchgckljlnaadoor", sum := "fce3a7d305adbcdfd2930e9da5896a5c3f318eefdef4a1a817df57795508c29a", func := "imprimatur/imprimaturlaw08.TreeGrows", spec := "treeGrows", inPlace := ["internal/abi.NoEscape"], unfollowed := true, recurses := true, named := ["imprimatur/sha256.keys"], apart := false, laid := [("imprimatur/sha256.keys", laid_imprimatur_sha256_keys)], narrowed := true }
def TreeGrowsUptoSaid : Prop := treeGrowsUptoRow.holds Tryd.pinned (OpenSpec.upto treeGrowsSpec)

/-- 'imprimaturlaw08.TreeParts', WHERE WHAT IT READS IS OF BULK AT MOST 1048576: true; the input reads as it did. -/
def treePartsUptoRow : OpenClaim := { program := "yticcchgckljlnaadoor", sum := "fce3a7d305adbcdfd2930e9da5896a5c3f318eefdef4a1a817df57795508c29a", func := "imprimatur/imprimaturlaw08.TreeParts", spec := "treeParts", inPlace := ["internal/abi.NoEscape"], unfollowed := true, recurses := true, named := ["imprimatur/sha256.keys"], apart := false, laid := [("imprimatur/sha256.keys", laid_imprimatur_sha256_keys)], narrowed := true }
def TreePartsUptoSaid : Prop := treePartsUptoRow.holds Tryd.pinned (OpenSpec.upto treePartsSpec)

/-- 'imprimaturlaw09.ProofClash', WHERE WHAT IT READS IS OF BULK AT MOST 1048576: true; the input reads as it did. -/
def proofClashUptoRow : OpenClaim := { program := "yticcchgckljlnaadoor", sum := "fce3a7d305adbcdfd2930e9da5896a5c3f318eefdef4a1a817df57795508c29a", func := "imprimatur/imprimaturlaw09.ProofClash", spec := "proofClash", inPlace := ["internal/abi.NoEscape"], unfollowed := true, recurses := true, named := ["imprimatur/sha256.keys"], apart := false, laid := [("imprimatur/sha256.keys", laid_imprimatur_sha256_keys)], narrowed := true }
def ProofClashUptoSaid : Prop := proofClashUptoRow.holds Tryd.pinned (OpenSpec.upto proofClashSpec)

/-- 'imprimaturlaw09.ProofFollows', WHERE WHAT IT READS IS OF BULK AT MOST 1048576: true; the input reads as it did. -/
def proofFollowsUptoRow : OpenClaim := { program := "yticcchgckljlnaadoor", sum := "fce3a7d305adbcdfd2930e9da5896a5c3f318eefdef4a1a817df57795508c29a", func := "imprimatur/imprimaturlaw09.ProofFollows", spec := "proofFollows", inPlace := ["internal/abi.NoEscape"], unfollowed := true, recurses := true, named := ["imprimatur/sha256.keys"], apart := false, laid := [("imprimatur/sha256.keys", laid_imprimatur_sha256_keys)], narrowed := true }
def ProofFollowsUptoSaid : Prop := proofFollowsUptoRow.holds Tryd.pinned (OpenSpec.upto proofFollowsSpec)

/-- 'imprimaturlaw09.ProofBack', WHERE WHAT IT READS IS OF BULK AT MOST 1048576: true; the input reads as it did. -/
def proofBackUptoRow : OpenClaim := { program := "yticcchgckljlnaadoor", sum := "fce3a7d305adbcdfd2930e9da5896a5c3f318eefdef4a1a817df57795508c29a", func := "imprimatur/imprimaturlaw09.ProofBack", spec := "proofBack", inPlace := ["internal/abi.NoEscape"], unfollowed := true, recurses := true, named := ["imprimatur/sha256.keys"], apart := false, laid := [("imprimatur/sha256.keys", laid_imprimatur_sha256_keys)], narrowed := true }
def ProofBackUptoSaid : Prop := proofBackUptoRow.holds Tryd.pinned (OpenSpec.upto proofBackSpec)

end Rows
end Go.Proofs.YticcchgckljlnaaDoor
