/-
  DERIVED. GIVEN WITH THE SEED: THE CARDS: each row of YticcchgckljlnaaDoorRows.lean that lists a variable, with what it lists TIED to the program's text (the seventh form; the later family's looks); each row that meets fmt, with fmt's text TOLD by the authors' own Lean function (tested against real Go, not proved from fmt's source: count such statements apart). THE CARD IS WHAT COUNTS. Prove the row's statement (the work); the ties are given (YticcchgckljlnaaDoorTie.lean); close each card by the builder's one call (the guide's Derived/Test/ToyasCard.lean, 'card_holds'). Laid BY PROGRAM, IN A SANDBOX (cutbox-door.mjs). By AI agents, Wed Nov 11 2026. No macro, syntax, notation, axiom, sorry.
-/
import Derived.Test.YticcchgckljlnaaDoorRows
import GoSem.ClaimSeven
namespace Go.Proofs.YticcchgckljlnaaDoor
namespace Rows

/-- THE TIED CARD OF 'imprimaturlaw02.Sha256Sums'. -/
def sha256SumsCard : Claim7 := { stood := { row := sha256SumsRow, standIns := [], harness := (true, "47274f0b3ce2b699eae74ec9eac7a5ead40ec7e9946ac84f6e4d644eaa80d414"), looks := false }, kinds := [], alts := [], laidByText := true, laidKinds := [.data], laidTests := true, laidLooks := .later }
def Sha256SumsCardSaid : Prop := Claim7.holds Tryd.pinned (.plain (OpenSpec.ofChange sha256SumsSpec)) sha256SumsCard

/-- THE TIED CARD OF 'imprimaturlaw02.Sha256Blocks'. -/
def sha256BlocksCard : Claim7 := { stood := { row := sha256BlocksRow, standIns := [], harness := (true, "47274f0b3ce2b699eae74ec9eac7a5ead40ec7e9946ac84f6e4d644eaa80d414"), looks := false }, kinds := [], alts := [], laidByText := true, laidKinds := [.data], laidTests := true, laidLooks := .later }
def Sha256BlocksCardSaid : Prop := Claim7.holds Tryd.pinned (.plain (OpenSpec.ofChange sha256BlocksSpec)) sha256BlocksCard

/-- THE TIED CARD OF 'imprimaturlaw02.Sha256Goes'. -/
def sha256GoesCard : Claim7 := { stood := { row := sha256GoesRow, standIns := [], harness := (true, "47274f0b3ce2b699eae74ec9eac7a5ead40ec7e9946ac84f6e4d644eaa80d414"), looks := false }, kinds := [], alts := [], laidByText := true, laidKinds := [.data], laidTests := true, laidLooks := .later }
def Sha256GoesCardSaid : Prop := Claim7.holds Tryd.pinned (.plain (OpenSpec.ofChange sha256GoesSpec)) sha256GoesCard

/-- THE TIED CARD OF 'imprimaturlaw02.Sha256Pieces'. -/
def sha256PiecesCard : Claim7 := { stood := { row := sha256PiecesRow, standIns := [], harness := (true, "47274f0b3ce2b699eae74ec9eac7a5ead40ec7e9946ac84f6e4d644eaa80d414"), looks := false }, kinds := [], alts := [], laidByText := true, laidKinds := [.data], laidTests := true, laidLooks := .later }
def Sha256PiecesCardSaid : Prop := Claim7.holds Tryd.pinned (.plain (OpenSpec.ofChange sha256PiecesSpec)) sha256PiecesCard

/-- THE TIED CARD OF 'imprimaturlaw08.TreeRoots'. -/
def treeRootsCard : Claim7 := { stood := { row := treeRootsRow, standIns := [], harness := (true, "47274f0b3ce2b699eae74ec9eac7a5ead40ec7e9946ac84f6e4d644eaa80d414"), looks := false }, kinds := [], alts := [], laidByText := true, laidKinds := [.data], laidTests := true, laidLooks := .later }
def TreeRootsCardSaid : Prop := Claim7.holds Tryd.pinned (.plain (OpenSpec.ofChange treeRootsSpec)) treeRootsCard

/-- THE TIED CARD OF 'imprimaturlaw08.TreeHalves'. -/
def treeHalvesCard : Claim7 := { stood := { row := treeHalvesRow, standIns := [], harness := (true, "47274f0b3ce2b699eae74ec9eac7a5ead40ec7e9946ac84f6e4d644eaa80d414"), looks := false }, kinds := [], alts := [], laidByText := true, laidKinds := [.data], laidTests := true, laidLooks := .later }
def TreeHalvesCardSaid : Prop := Claim7.holds Tryd.pinned (.plain (OpenSpec.ofChange treeHalvesSpec)) treeHalvesCard

/-- THE TIED CARD OF 'imprimaturlaw09.ProofMakes'. -/
def proofMakesCard : Claim7 := { stood := { row := proofMakesRow, standIns := [], harness := (true, "47274f0b3ce2b699eae74ec9eac7a5ead40ec7e9946ac84f6e4d644eaa80d414"), looks := false }, kinds := [], alts := [], laidByText := true, laidKinds := [.data], laidTests := true, laidLooks := .later }
def ProofMakesCardSaid : Prop := Claim7.holds Tryd.pinned (.plain (OpenSpec.ofChange proofMakesSpec)) proofMakesCard

/-- THE TIED CARD OF 'imprimaturlaw09.ProofSizes'. -/
def proofSizesCard : Claim7 := { stood := { row := proofSizesRow, standIns := [], harness := (true, "47274f0b3ce2b699eae74ec9eac7a5ead40ec7e9946ac84f6e4d644eaa80d414"), looks := false }, kinds := [], alts := [], laidByText := true, laidKinds := [.data], laidTests := true, laidLooks := .later }
def ProofSizesCardSaid : Prop := Claim7.holds Tryd.pinned (.plain (OpenSpec.ofChange proofSizesSpec)) proofSizesCard

/-- THE TIED CARD OF 'imprimaturlaw08.TreeKeeps'. -/
def treeKeepsCard : Claim7 := { stood := { row := treeKeepsRow, standIns := [], harness := (true, "47274f0b3ce2b699eae74ec9eac7a5ead40ec7e9946ac84f6e4d644eaa80d414"), looks := false }, kinds := [], alts := [], laidByText := true, laidKinds := [.data], laidTests := true, laidLooks := .later }
def TreeKeepsCardSaid : Prop := Claim7.holds Tryd.pinned (.plain (OpenSpec.ofChange treeKeepsSpec)) treeKeepsCard

/-- THE TIED CARD OF 'imprimaturlaw09.ProofHolds'. -/
def proofHoldsCard : Claim7 := { stood := { row := proofHoldsRow, standIns := [], harness := (true, "47274f0b3ce2b699eae74ec9eac7a5ead40ec7e9946ac84f6e4d644eaa80d414"), looks := false }, kinds := [], alts := [], laidByText := true, laidKinds := [.data], laidTests := true, laidLooks := .later }
def ProofHoldsCardSaid : Prop := Claim7.holds Tryd.pinned (.plain (OpenSpec.ofChange proofHoldsSpec)) proofHoldsCard

/-- THE TIED CARD OF 'imprimaturlaw08.TreeGoes'. -/
def treeGoesCard : Claim7 := { stood := { row := treeGoesRow, standIns := [], harness := (true, "47274f0b3ce2b699eae74ec9eac7a5ead40ec7e9946ac84f6e4d644eaa80d414"), looks := false }, kinds := [], alts := [], laidByText := true, laidKinds := [.data], laidTests := true, laidLooks := .later }
def TreeGoesCardSaid : Prop := Claim7.holds Tryd.pinned (.plain (OpenSpec.ofChange treeGoesSpec)) treeGoesCard

/-- THE TIED CARD OF 'imprimaturlaw08.TreeGrows'. -/
def treeGrowsCard : Claim7 := { stood := { row := treeGrowsRow, standIns := [], harness := (true, "47274f0b3ce2b699eae74ec9eac7a5ead40ec7e9946ac84f6e4d644eaa80d414"), looks := false }, kinds := [], alts := [], laidByText := true, laidKinds := [.data], laidTests := true, laidLooks := .later }
def TreeGrowsCardSaid : Prop := Claim7.holds Tryd.pinned (.plain (OpenSpec.ofChange treeGrowsSpec)) treeGrowsCard

/-- THE TIED CARD OF 'imprimaturlaw08.TreeParts'. -/
def treePartsCard : Claim7 := { stood := { row := treePartsRow, standIns := [], harness := (true, "47274f0b3ce2b699eae74ec9eac7a5ead40ec7e9946ac84f6e4d644eaa80d414"), looks := false }, kinds := [], alts := [], laidByText := true, laidKinds := [.data], laidTests := true, laidLooks := .later }
def TreePartsCardSaid : Prop := Claim7.holds Tryd.pinned (.plain (OpenSpec.ofChange treePartsSpec)) treePartsCard

/-- THE TIED CARD OF 'imprimaturlaw09.ProofClash'. -/
def proofClashCard : Claim7 := { stood := { row := proofClashRow, standIns := [], harness := (true, "47274f0b3ce2b699eae74ec9eac7a5ead40ec7e9946ac84f6e4d644eaa80d414"), looks := false }, kinds := [], alts := [], laidByText := true, laidKinds := [.data], laidTests := true, laidLooks := .later }
def ProofClashCardSaid : Prop := Claim7.holds Tryd.pinned (.plain (OpenSpec.ofChange proofClashSpec)) proofClashCard

/-- THE TIED CARD OF 'imprimaturlaw09.ProofFollows'. -/
def proofFollowsCard : Claim7 := { stood := { row := proofFollowsRow, standIns := [], harness := (true, "47274f0b3ce2b699eae74ec9eac7a5ead40ec7e9946ac84f6e4d644eaa80d414"), looks := false }, kinds := [], alts := [], laidByText := true, laidKinds := [.data], laidTests := true, laidLooks := .later }
def ProofFollowsCardSaid : Prop := Claim7.holds Tryd.pinned (.plain (OpenSpec.ofChange proofFollowsSpec)) proofFollowsCard

/-- THE TIED CARD OF 'imprimaturlaw09.ProofBack'. -/
def proofBackCard : Claim7 := { stood := { row := proofBackRow, standIns := [], harness := (true, "47274f0b3ce2b699eae74ec9eac7a5ead40ec7e9946ac84f6e4d644eaa80d414"), looks := false }, kinds := [], alts := [], laidByText := true, laidKinds := [.data], laidTests := true, laidLooks := .later }
def ProofBackCardSaid : Prop := Claim7.holds Tryd.pinned (.plain (OpenSpec.ofChange proofBackSpec)) proofBackCard

/-- THE SECOND FORM's CARD OF 'imprimaturlaw02.Sha256Sums'. -/
def sha256SumsUptoCard : Claim7 := { stood := { row := sha256SumsUptoRow, standIns := [], harness := (true, "47274f0b3ce2b699eae74ec9eac7a5ead40ec7e9946ac84f6e4d644eaa80d414"), looks := false }, kinds := [], alts := [], laidByText := true, laidKinds := [.data], laidTests := true, laidLooks := .later }
def Sha256SumsUptoCardSaid : Prop := Claim7.holds Tryd.pinned (.plain (OpenSpec.upto sha256SumsSpec)) sha256SumsUptoCard

/-- THE SECOND FORM's CARD OF 'imprimaturlaw02.Sha256Blocks'. -/
def sha256BlocksUptoCard : Claim7 := { stood := { row := sha256BlocksUptoRow, standIns := [], harness := (true, "47274f0b3ce2b699eae74ec9eac7a5ead40ec7e9946ac84f6e4d644eaa80d414"), looks := false }, kinds := [], alts := [], laidByText := true, laidKinds := [.data], laidTests := true, laidLooks := .later }
def Sha256BlocksUptoCardSaid : Prop := Claim7.holds Tryd.pinned (.plain (OpenSpec.upto sha256BlocksSpec)) sha256BlocksUptoCard

/-- THE SECOND FORM's CARD OF 'imprimaturlaw02.Sha256Goes'. -/
def sha256GoesUptoCard : Claim7 := { stood := { row := sha256GoesUptoRow, standIns := [], harness := (true, "47274f0b3ce2b699eae74ec9eac7a5ead40ec7e9946ac84f6e4d644eaa80d414"), looks := false }, kinds := [], alts := [], laidByText := true, laidKinds := [.data], laidTests := true, laidLooks := .later }
def Sha256GoesUptoCardSaid : Prop := Claim7.holds Tryd.pinned (.plain (OpenSpec.upto sha256GoesSpec)) sha256GoesUptoCard

/-- THE SECOND FORM's CARD OF 'imprimaturlaw02.Sha256Pieces'. -/
def sha256PiecesUptoCard : Claim7 := { stood := { row := sha256PiecesUptoRow, standIns := [], harness := (true, "47274f0b3ce2b699eae74ec9eac7a5ead40ec7e9946ac84f6e4d644eaa80d414"), looks := false }, kinds := [], alts := [], laidByText := true, laidKinds := [.data], laidTests := true, laidLooks := .later }
def Sha256PiecesUptoCardSaid : Prop := Claim7.holds Tryd.pinned (.plain (OpenSpec.upto sha256PiecesSpec)) sha256PiecesUptoCard

/-- THE SECOND FORM's CARD OF 'imprimaturlaw08.TreeRoots'. -/
def treeRootsUptoCard : Claim7 := { stood := { row := treeRootsUptoRow, standIns := [], harness := (true, "47274f0b3ce2b699eae74ec9eac7a5ead40ec7e9946ac84f6e4d644eaa80d414"), looks := false }, kinds := [], alts := [], laidByText := true, laidKinds := [.data], laidTests := true, laidLooks := .later }
def TreeRootsUptoCardSaid : Prop := Claim7.holds Tryd.pinned (.plain (OpenSpec.upto treeRootsSpec)) treeRootsUptoCard

/-- THE SECOND FORM's CARD OF 'imprimaturlaw08.TreeHalves'. -/
def treeHalvesUptoCard : Claim7 := { stood := { row := treeHalvesUptoRow, standIns := [], harness := (true, "47274f0b3ce2b699eae74ec9eac7a5ead40ec7e9946ac84f6e4d644eaa80d414"), looks := false }, kinds := [], alts := [], laidByText := true, laidKinds := [.data], laidTests := true, laidLooks := .later }
def TreeHalvesUptoCardSaid : Prop := Claim7.holds Tryd.pinned (.plain (OpenSpec.upto treeHalvesSpec)) treeHalvesUptoCard

/-- THE SECOND FORM's CARD OF 'imprimaturlaw09.ProofMakes'. -/
def proofMakesUptoCard : Claim7 := { stood := { row := proofMakesUptoRow, standIns := [], harness := (true, "47274f0b3ce2b699eae74ec9eac7a5ead40ec7e9946ac84f6e4d644eaa80d414"), looks := false }, kinds := [], alts := [], laidByText := true, laidKinds := [.data], laidTests := true, laidLooks := .later }
def ProofMakesUptoCardSaid : Prop := Claim7.holds Tryd.pinned (.plain (OpenSpec.upto proofMakesSpec)) proofMakesUptoCard

/-- THE SECOND FORM's CARD OF 'imprimaturlaw09.ProofSizes'. -/
def proofSizesUptoCard : Claim7 := { stood := { row := proofSizesUptoRow, standIns := [], harness := (true, "47274f0b3ce2b699eae74ec9eac7a5ead40ec7e9946ac84f6e4d644eaa80d414"), looks := false }, kinds := [], alts := [], laidByText := true, laidKinds := [.data], laidTests := true, laidLooks := .later }
def ProofSizesUptoCardSaid : Prop := Claim7.holds Tryd.pinned (.plain (OpenSpec.upto proofSizesSpec)) proofSizesUptoCard

/-- THE SECOND FORM's CARD OF 'imprimaturlaw08.TreeKeeps'. -/
def treeKeepsUptoCard : Claim7 := { stood := { row := treeKeepsUptoRow, standIns := [], harness := (true, "47274f0b3ce2b699eae74ec9eac7a5ead40ec7e9946ac84f6e4d644eaa80d414"), looks := false }, kinds := [], alts := [], laidByText := true, laidKinds := [.data], laidTests := true, laidLooks := .later }
def TreeKeepsUptoCardSaid : Prop := Claim7.holds Tryd.pinned (.plain (OpenSpec.upto treeKeepsSpec)) treeKeepsUptoCard

/-- THE SECOND FORM's CARD OF 'imprimaturlaw09.ProofHolds'. -/
def proofHoldsUptoCard : Claim7 := { stood := { row := proofHoldsUptoRow, standIns := [], harness := (true, "47274f0b3ce2b699eae74ec9eac7a5ead40ec7e9946ac84f6e4d644eaa80d414"), looks := false }, kinds := [], alts := [], laidByText := true, laidKinds := [.data], laidTests := true, laidLooks := .later }
def ProofHoldsUptoCardSaid : Prop := Claim7.holds Tryd.pinned (.plain (OpenSpec.upto proofHoldsSpec)) proofHoldsUptoCard

/-- THE SECOND FORM's CARD OF 'imprimaturlaw08.TreeGoes'. -/
def treeGoesUptoCard : Claim7 := { stood := { row := treeGoesUptoRow, standIns := [], harness := (true, "47274f0b3ce2b699eae74ec9eac7a5ead40ec7e9946ac84f6e4d644eaa80d414"), looks := false }, kinds := [], alts := [], laidByText := true, laidKinds := [.data], laidTests := true, laidLooks := .later }
def TreeGoesUptoCardSaid : Prop := Claim7.holds Tryd.pinned (.plain (OpenSpec.upto treeGoesSpec)) treeGoesUptoCard

/-- THE SECOND FORM's CARD OF 'imprimaturlaw08.TreeGrows'. -/
def treeGrowsUptoCard : Claim7 := { stood := { row := treeGrowsUptoRow, standIns := [], harness := (true, "47274f0b3ce2b699eae74ec9eac7a5ead40ec7e9946ac84f6e4d644eaa80d414"), looks := false }, kinds := [], alts := [], laidByText := true, laidKinds := [.data], laidTests := true, laidLooks := .later }
def TreeGrowsUptoCardSaid : Prop := Claim7.holds Tryd.pinned (.plain (OpenSpec.upto treeGrowsSpec)) treeGrowsUptoCard

/-- THE SECOND FORM's CARD OF 'imprimaturlaw08.TreeParts'. -/
def treePartsUptoCard : Claim7 := { stood := { row := treePartsUptoRow, standIns := [], harness := (true, "47274f0b3ce2b699eae74ec9eac7a5ead40ec7e9946ac84f6e4d644eaa80d414"), looks := false }, kinds := [], alts := [], laidByText := true, laidKinds := [.data], laidTests := true, laidLooks := .later }
def TreePartsUptoCardSaid : Prop := Claim7.holds Tryd.pinned (.plain (OpenSpec.upto treePartsSpec)) treePartsUptoCard

/-- THE SECOND FORM's CARD OF 'imprimaturlaw09.ProofClash'. -/
def proofClashUptoCard : Claim7 := { stood := { row := proofClashUptoRow, standIns := [], harness := (true, "47274f0b3ce2b699eae74ec9eac7a5ead40ec7e9946ac84f6e4d644eaa80d414"), looks := false }, kinds := [], alts := [], laidByText := true, laidKinds := [.data], laidTests := true, laidLooks := .later }
def ProofClashUptoCardSaid : Prop := Claim7.holds Tryd.pinned (.plain (OpenSpec.upto proofClashSpec)) proofClashUptoCard

/-- THE SECOND FORM's CARD OF 'imprimaturlaw09.ProofFollows'. -/
def proofFollowsUptoCard : Claim7 := { stood := { row := proofFollowsUptoRow, standIns := [], harness := (true, "47274f0b3ce2b699eae74ec9eac7a5ead40ec7e9946ac84f6e4d644eaa80d414"), looks := false }, kinds := [], alts := [], laidByText := true, laidKinds := [.data], laidTests := true, laidLooks := .later }
def ProofFollowsUptoCardSaid : Prop := Claim7.holds Tryd.pinned (.plain (OpenSpec.upto proofFollowsSpec)) proofFollowsUptoCard

/-- THE SECOND FORM's CARD OF 'imprimaturlaw09.ProofBack'. -/
def proofBackUptoCard : Claim7 := { stood := { row := proofBackUptoRow, standIns := [], harness := (true, "47274f0b3ce2b699eae74ec9eac7a5ead40ec7e9946ac84f6e4d644eaa80d414"), looks := false }, kinds := [], alts := [], laidByText := true, laidKinds := [.data], laidTests := true, laidLooks := .later }
def ProofBackUptoCardSaid : Prop := Claim7.holds Tryd.pinned (.plain (OpenSpec.upto proofBackSpec)) proofBackUptoCard
end Rows
end Go.Proofs.YticcchgckljlnaaDoor
