/-
  DERIVED. GIVEN WITH THE SEED: THE CARDS: each row of YtpgpjoldelobdaaDoorRows.lean that lists a variable, with what it lists TIED to the program's text (the seventh form; the later family's looks); each row that meets fmt, with fmt's text TOLD by the authors' own Lean function (tested against real Go, not proved from fmt's source: count such statements apart). THE CARD IS WHAT COUNTS. Prove the row's statement (the work); the ties are given (YtpgpjoldelobdaaDoorTie.lean); close each card by the builder's one call (the guide's Derived/Test/ToyasCard.lean, 'card_holds'). Laid BY PROGRAM, IN A SANDBOX (cutbox-door.mjs). By AI agents, Wed Nov 11 2026. No macro, syntax, notation, axiom, sorry.
-/
import Derived.Test.YtpgpjoldelobdaaDoorRows
import GoSem.ClaimSeven
namespace Go.Proofs.YtpgpjoldelobdaaDoor
namespace Rows

/-- THE TIED CARD OF 'imprimaturlaw07.EdBack'. -/
def edBackCard : Claim7 := { stood := { row := edBackRow, standIns := [], harness := (true, "f4ce16c8beb8765f3f3c9461930b1e59ba934cdf509a5b07a6993f6f24582b5f"), looks := false }, kinds := [], alts := [], laidByText := true, laidKinds := [.data], laidTests := true, laidLooks := .later }
def EdBackCardSaid : Prop := Claim7.holds Tryd.pinned (.plain (OpenSpec.ofChange edBackSpec)) edBackCard

/-- THE TIED CARD OF 'imprimaturlaw10.HeadParts'. -/
def headPartsCard : Claim7 := { stood := { row := headPartsRow, standIns := [], harness := (true, "f4ce16c8beb8765f3f3c9461930b1e59ba934cdf509a5b07a6993f6f24582b5f"), looks := false }, kinds := [], alts := [], laidByText := true, laidKinds := [.data, .data], laidTests := true, laidLooks := .later }
def HeadPartsCardSaid : Prop := Claim7.holds Tryd.pinned (.plain (OpenSpec.ofChange headPartsSpec)) headPartsCard

/-- THE TIED CARD OF 'imprimaturlaw10.HeadTexts'. -/
def headTextsCard : Claim7 := { stood := { row := headTextsRow, standIns := [], harness := (true, "f4ce16c8beb8765f3f3c9461930b1e59ba934cdf509a5b07a6993f6f24582b5f"), looks := false }, kinds := [], alts := [], laidByText := true, laidKinds := [.data, .data], laidTests := true, laidLooks := .later }
def HeadTextsCardSaid : Prop := Claim7.holds Tryd.pinned (.plain (OpenSpec.ofChange headTextsSpec)) headTextsCard

/-- THE TIED CARD OF 'imprimaturlaw07.EdOther'. -/
def edOtherCard : Claim7 := { stood := { row := edOtherRow, standIns := [], harness := (true, "f4ce16c8beb8765f3f3c9461930b1e59ba934cdf509a5b07a6993f6f24582b5f"), looks := false }, kinds := [], alts := [], laidByText := true, laidKinds := [.data], laidTests := true, laidLooks := .later }
def EdOtherCardSaid : Prop := Claim7.holds Tryd.pinned (.plain (OpenSpec.ofChange edOtherSpec)) edOtherCard

/-- THE TIED CARD OF 'imprimaturlaw10.HeadSigns'. -/
def headSignsCard : Claim7 := { stood := { row := headSignsRow, standIns := [], harness := (true, "f4ce16c8beb8765f3f3c9461930b1e59ba934cdf509a5b07a6993f6f24582b5f"), looks := false }, kinds := [], alts := [], laidByText := true, laidKinds := [.data, .data], laidTests := true, laidLooks := .later }
def HeadSignsCardSaid : Prop := Claim7.holds Tryd.pinned (.plain (OpenSpec.ofChange headSignsSpec)) headSignsCard

/-- THE TIED CARD OF 'imprimaturlaw14.RoleSigns'. -/
def roleSignsCard : Claim7 := { stood := { row := roleSignsRow, standIns := [], harness := (true, "f4ce16c8beb8765f3f3c9461930b1e59ba934cdf509a5b07a6993f6f24582b5f"), looks := false }, kinds := [], alts := [], laidByText := true, laidKinds := [.data, .data], laidTests := true, laidLooks := .later }
def RoleSignsCardSaid : Prop := Claim7.holds Tryd.pinned (.plain (OpenSpec.ofChange roleSignsSpec)) roleSignsCard

/-- THE TIED CARD OF 'imprimaturlaw14.RoleNeeds'. -/
def roleNeedsCard : Claim7 := { stood := { row := roleNeedsRow, standIns := [], harness := (true, "f4ce16c8beb8765f3f3c9461930b1e59ba934cdf509a5b07a6993f6f24582b5f"), looks := false }, kinds := [], alts := [], laidByText := true, laidKinds := [.data, .data], laidTests := true, laidLooks := .later }
def RoleNeedsCardSaid : Prop := Claim7.holds Tryd.pinned (.plain (OpenSpec.ofChange roleNeedsSpec)) roleNeedsCard

/-- THE TIED CARD OF 'imprimaturlaw14.RoleOrder'. -/
def roleOrderCard : Claim7 := { stood := { row := roleOrderRow, standIns := [], harness := (true, "f4ce16c8beb8765f3f3c9461930b1e59ba934cdf509a5b07a6993f6f24582b5f"), looks := false }, kinds := [], alts := [], laidByText := true, laidKinds := [.data, .data], laidTests := true, laidLooks := .later }
def RoleOrderCardSaid : Prop := Claim7.holds Tryd.pinned (.plain (OpenSpec.ofChange roleOrderSpec)) roleOrderCard

/-- THE TIED CARD OF 'imprimaturlaw14.RoleFirst'. -/
def roleFirstCard : Claim7 := { stood := { row := roleFirstRow, standIns := [], harness := (true, "f4ce16c8beb8765f3f3c9461930b1e59ba934cdf509a5b07a6993f6f24582b5f"), looks := false }, kinds := [], alts := [], laidByText := true, laidKinds := [.data, .data], laidTests := true, laidLooks := .later }
def RoleFirstCardSaid : Prop := Claim7.holds Tryd.pinned (.plain (OpenSpec.ofChange roleFirstSpec)) roleFirstCard

/-- THE TIED CARD OF 'imprimaturlaw10.HeadGoes'. -/
def headGoesCard : Claim7 := { stood := { row := headGoesRow, standIns := [], harness := (true, "f4ce16c8beb8765f3f3c9461930b1e59ba934cdf509a5b07a6993f6f24582b5f"), looks := false }, kinds := [], alts := [], laidByText := true, laidKinds := [.data, .data], laidTests := true, laidLooks := .later }
def HeadGoesCardSaid : Prop := Claim7.holds Tryd.pinned (.plain (OpenSpec.ofChange headGoesSpec)) headGoesCard

/-- THE TIED CARD OF 'imprimaturlaw10.HeadTimes'. -/
def headTimesCard : Claim7 := { stood := { row := headTimesRow, standIns := [], harness := (true, "f4ce16c8beb8765f3f3c9461930b1e59ba934cdf509a5b07a6993f6f24582b5f"), looks := false }, kinds := [], alts := [], laidByText := true, laidKinds := [.data, .data], laidTests := true, laidLooks := .later }
def HeadTimesCardSaid : Prop := Claim7.holds Tryd.pinned (.plain (OpenSpec.ofChange headTimesSpec)) headTimesCard

/-- THE SECOND FORM's CARD OF 'imprimaturlaw07.EdBack'. -/
def edBackUptoCard : Claim7 := { stood := { row := edBackUptoRow, standIns := [], harness := (true, "f4ce16c8beb8765f3f3c9461930b1e59ba934cdf509a5b07a6993f6f24582b5f"), looks := false }, kinds := [], alts := [], laidByText := true, laidKinds := [.data], laidTests := true, laidLooks := .later }
def EdBackUptoCardSaid : Prop := Claim7.holds Tryd.pinned (.plain (OpenSpec.upto edBackSpec)) edBackUptoCard

/-- THE SECOND FORM's CARD OF 'imprimaturlaw10.HeadParts'. -/
def headPartsUptoCard : Claim7 := { stood := { row := headPartsUptoRow, standIns := [], harness := (true, "f4ce16c8beb8765f3f3c9461930b1e59ba934cdf509a5b07a6993f6f24582b5f"), looks := false }, kinds := [], alts := [], laidByText := true, laidKinds := [.data, .data], laidTests := true, laidLooks := .later }
def HeadPartsUptoCardSaid : Prop := Claim7.holds Tryd.pinned (.plain (OpenSpec.upto headPartsSpec)) headPartsUptoCard

/-- THE SECOND FORM's CARD OF 'imprimaturlaw10.HeadTexts'. -/
def headTextsUptoCard : Claim7 := { stood := { row := headTextsUptoRow, standIns := [], harness := (true, "f4ce16c8beb8765f3f3c9461930b1e59ba934cdf509a5b07a6993f6f24582b5f"), looks := false }, kinds := [], alts := [], laidByText := true, laidKinds := [.data, .data], laidTests := true, laidLooks := .later }
def HeadTextsUptoCardSaid : Prop := Claim7.holds Tryd.pinned (.plain (OpenSpec.upto headTextsSpec)) headTextsUptoCard

/-- THE SECOND FORM's CARD OF 'imprimaturlaw07.EdOther'. -/
def edOtherUptoCard : Claim7 := { stood := { row := edOtherUptoRow, standIns := [], harness := (true, "f4ce16c8beb8765f3f3c9461930b1e59ba934cdf509a5b07a6993f6f24582b5f"), looks := false }, kinds := [], alts := [], laidByText := true, laidKinds := [.data], laidTests := true, laidLooks := .later }
def EdOtherUptoCardSaid : Prop := Claim7.holds Tryd.pinned (.plain (OpenSpec.upto edOtherSpec)) edOtherUptoCard

/-- THE SECOND FORM's CARD OF 'imprimaturlaw10.HeadSigns'. -/
def headSignsUptoCard : Claim7 := { stood := { row := headSignsUptoRow, standIns := [], harness := (true, "f4ce16c8beb8765f3f3c9461930b1e59ba934cdf509a5b07a6993f6f24582b5f"), looks := false }, kinds := [], alts := [], laidByText := true, laidKinds := [.data, .data], laidTests := true, laidLooks := .later }
def HeadSignsUptoCardSaid : Prop := Claim7.holds Tryd.pinned (.plain (OpenSpec.upto headSignsSpec)) headSignsUptoCard

/-- THE SECOND FORM's CARD OF 'imprimaturlaw14.RoleSigns'. -/
def roleSignsUptoCard : Claim7 := { stood := { row := roleSignsUptoRow, standIns := [], harness := (true, "f4ce16c8beb8765f3f3c9461930b1e59ba934cdf509a5b07a6993f6f24582b5f"), looks := false }, kinds := [], alts := [], laidByText := true, laidKinds := [.data, .data], laidTests := true, laidLooks := .later }
def RoleSignsUptoCardSaid : Prop := Claim7.holds Tryd.pinned (.plain (OpenSpec.upto roleSignsSpec)) roleSignsUptoCard

/-- THE SECOND FORM's CARD OF 'imprimaturlaw14.RoleNeeds'. -/
def roleNeedsUptoCard : Claim7 := { stood := { row := roleNeedsUptoRow, standIns := [], harness := (true, "f4ce16c8beb8765f3f3c9461930b1e59ba934cdf509a5b07a6993f6f24582b5f"), looks := false }, kinds := [], alts := [], laidByText := true, laidKinds := [.data, .data], laidTests := true, laidLooks := .later }
def RoleNeedsUptoCardSaid : Prop := Claim7.holds Tryd.pinned (.plain (OpenSpec.upto roleNeedsSpec)) roleNeedsUptoCard

/-- THE SECOND FORM's CARD OF 'imprimaturlaw14.RoleOrder'. -/
def roleOrderUptoCard : Claim7 := { stood := { row := roleOrderUptoRow, standIns := [], harness := (true, "f4ce16c8beb8765f3f3c9461930b1e59ba934cdf509a5b07a6993f6f24582b5f"), looks := false }, kinds := [], alts := [], laidByText := true, laidKinds := [.data, .data], laidTests := true, laidLooks := .later }
def RoleOrderUptoCardSaid : Prop := Claim7.holds Tryd.pinned (.plain (OpenSpec.upto roleOrderSpec)) roleOrderUptoCard

/-- THE SECOND FORM's CARD OF 'imprimaturlaw14.RoleFirst'. -/
def roleFirstUptoCard : Claim7 := { stood := { row := roleFirstUptoRow, standIns := [], harness := (true, "f4ce16c8beb8765f3f3c9461930b1e59ba934cdf509a5b07a6993f6f24582b5f"), looks := false }, kinds := [], alts := [], laidByText := true, laidKinds := [.data, .data], laidTests := true, laidLooks := .later }
def RoleFirstUptoCardSaid : Prop := Claim7.holds Tryd.pinned (.plain (OpenSpec.upto roleFirstSpec)) roleFirstUptoCard

/-- THE SECOND FORM's CARD OF 'imprimaturlaw10.HeadGoes'. -/
def headGoesUptoCard : Claim7 := { stood := { row := headGoesUptoRow, standIns := [], harness := (true, "f4ce16c8beb8765f3f3c9461930b1e59ba934cdf509a5b07a6993f6f24582b5f"), looks := false }, kinds := [], alts := [], laidByText := true, laidKinds := [.data, .data], laidTests := true, laidLooks := .later }
def HeadGoesUptoCardSaid : Prop := Claim7.holds Tryd.pinned (.plain (OpenSpec.upto headGoesSpec)) headGoesUptoCard

/-- THE SECOND FORM's CARD OF 'imprimaturlaw10.HeadTimes'. -/
def headTimesUptoCard : Claim7 := { stood := { row := headTimesUptoRow, standIns := [], harness := (true, "f4ce16c8beb8765f3f3c9461930b1e59ba934cdf509a5b07a6993f6f24582b5f"), looks := false }, kinds := [], alts := [], laidByText := true, laidKinds := [.data, .data], laidTests := true, laidLooks := .later }
def HeadTimesUptoCardSaid : Prop := Claim7.holds Tryd.pinned (.plain (OpenSpec.upto headTimesSpec)) headTimesUptoCard
end Rows
end Go.Proofs.YtpgpjoldelobdaaDoor
