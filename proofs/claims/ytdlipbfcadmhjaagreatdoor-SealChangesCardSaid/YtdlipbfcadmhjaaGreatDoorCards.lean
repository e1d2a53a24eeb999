/-
  DERIVED. GIVEN WITH THE SEED: THE CARDS: each row of YtdlipbfcadmhjaaGreatDoorRows.lean that lists a variable, with what it lists TIED to the program's text (the seventh form; the later family's looks); each row that meets fmt, with fmt's text TOLD by the authors' own Lean function (tested against real Go, not proved from fmt's source: count such statements apart). THE CARD IS WHAT COUNTS. Prove the row's statement (the work); the ties are given (YtdlipbfcadmhjaaGreatDoorTie.lean); close each card by the builder's one call (the guide's Derived/Test/ToyasCard.lean, 'card_holds'). Laid BY PROGRAM, IN A SANDBOX (cutbox-door.mjs). By AI agents, Wed Nov 11 2026. No macro, syntax, notation, axiom, sorry.
-/
import Derived.Test.YtdlipbfcadmhjaaGreatDoorRows
import GoSem.ClaimSeven
namespace Go.Proofs.YtdlipbfcadmhjaaGreatDoor
namespace Rows

/-- THE TIED CARD OF 'customhousetop.TopTraced'. -/
def topTracedCard : Claim7 := { stood := { row := topTracedRow, standIns := [], harness := (true, "84401d6ef2475bdaa42031bdaa1f3b21f6a74c7349b33b67118e9361c06783ab"), looks := true }, kinds := [], alts := [], laidByText := true, laidKinds := [.data, .data, .data, .data, .sentinel, .sentinel, .pinned], laidTests := true, laidLooks := .later }
def TopTracedCardSaid : Prop := Claim7.holds Tryz.pinned (.plain (OpenSpec.ofChange topTracedSpec)) topTracedCard

/-- THE TIED CARD OF 'customhouselaw02.TreeMatchesReference'. -/
def treeMatchesReferenceCard : Claim7 := { stood := { row := treeMatchesReferenceRow, standIns := [], harness := (true, "84401d6ef2475bdaa42031bdaa1f3b21f6a74c7349b33b67118e9361c06783ab"), looks := true }, kinds := [], alts := [], laidByText := true, laidKinds := [.data, .data, .data, .data, .pinned], laidTests := true, laidLooks := .later }
def TreeMatchesReferenceCardSaid : Prop := Claim7.holds Tryz.pinned (.plain (OpenSpec.ofChange treeMatchesReferenceSpec)) treeMatchesReferenceCard

/-- THE TIED CARD OF 'customhouselaw03.SealMatchesReference'. -/
def sealMatchesReferenceCard : Claim7 := { stood := { row := sealMatchesReferenceRow, standIns := [], harness := (true, "84401d6ef2475bdaa42031bdaa1f3b21f6a74c7349b33b67118e9361c06783ab"), looks := true }, kinds := [], alts := [], laidByText := true, laidKinds := [.data, .data, .data, .data, .pinned], laidTests := true, laidLooks := .later }
def SealMatchesReferenceCardSaid : Prop := Claim7.holds Tryz.pinned (.plain (OpenSpec.ofChange sealMatchesReferenceSpec)) sealMatchesReferenceCard

/-- THE TIED CARD OF 'customhouselaw03.SealSound'. -/
def sealSoundCard : Claim7 := { stood := { row := sealSoundRow, standIns := [], harness := (true, "84401d6ef2475bdaa42031bdaa1f3b21f6a74c7349b33b67118e9361c06783ab"), looks := true }, kinds := [], alts := [], laidByText := true, laidKinds := [.data, .data, .data, .data, .pinned], laidTests := true, laidLooks := .later }
def SealSoundCardSaid : Prop := Claim7.holds Tryz.pinned (.plain (OpenSpec.ofChange sealSoundSpec)) sealSoundCard

/-- THE TIED CARD OF 'customhouselaw03.SealBinds'. -/
def sealBindsCard : Claim7 := { stood := { row := sealBindsRow, standIns := [], harness := (true, "84401d6ef2475bdaa42031bdaa1f3b21f6a74c7349b33b67118e9361c06783ab"), looks := true }, kinds := [], alts := [], laidByText := true, laidKinds := [.data, .data, .data, .data, .pinned], laidTests := true, laidLooks := .later }
def SealBindsCardSaid : Prop := Claim7.holds Tryz.pinned (.plain (OpenSpec.ofChange sealBindsSpec)) sealBindsCard

/-- THE TIED CARD OF 'customhouselaw03.SealChanges'. -/
def sealChangesCard : Claim7 := { stood := { row := sealChangesRow, standIns := [], harness := (true, "84401d6ef2475bdaa42031bdaa1f3b21f6a74c7349b33b67118e9361c06783ab"), looks := true }, kinds := [], alts := [], laidByText := true, laidKinds := [.data, .data, .data, .data, .pinned], laidTests := true, laidLooks := .later }
def SealChangesCardSaid : Prop := Claim7.holds Tryz.pinned (.plain (OpenSpec.ofChange sealChangesSpec)) sealChangesCard

/-- THE TIED CARD OF 'customhouselaw29.EnduseBinds'. -/
def enduseBindsCard : Claim7 := { stood := { row := enduseBindsRow, standIns := [], harness := (true, "84401d6ef2475bdaa42031bdaa1f3b21f6a74c7349b33b67118e9361c06783ab"), looks := true }, kinds := [], alts := [], laidByText := true, laidKinds := [.data, .data, .data, .data, .pinned], laidTests := true, laidLooks := .later }
def EnduseBindsCardSaid : Prop := Claim7.holds Tryz.pinned (.plain (OpenSpec.ofChange enduseBindsSpec)) enduseBindsCard

/-- THE TIED CARD OF 'customhouselaw29.EnduseRevokes'. -/
def enduseRevokesCard : Claim7 := { stood := { row := enduseRevokesRow, standIns := [], harness := (true, "84401d6ef2475bdaa42031bdaa1f3b21f6a74c7349b33b67118e9361c06783ab"), looks := true }, kinds := [], alts := [], laidByText := true, laidKinds := [.data, .data, .data, .data, .pinned], laidTests := true, laidLooks := .later }
def EnduseRevokesCardSaid : Prop := Claim7.holds Tryz.pinned (.plain (OpenSpec.ofChange enduseRevokesSpec)) enduseRevokesCard

/-- THE SECOND FORM's CARD OF 'customhousetop.TopTraced'. -/
def topTracedUptoCard : Claim7 := { stood := { row := topTracedUptoRow, standIns := [], harness := (true, "84401d6ef2475bdaa42031bdaa1f3b21f6a74c7349b33b67118e9361c06783ab"), looks := true }, kinds := [], alts := [], laidByText := true, laidKinds := [.data, .data, .data, .data, .sentinel, .sentinel, .pinned], laidTests := true, laidLooks := .later }
def TopTracedUptoCardSaid : Prop := Claim7.holds Tryz.pinned (.plain (OpenSpec.upto topTracedSpec)) topTracedUptoCard

/-- THE SECOND FORM's CARD OF 'customhouselaw02.TreeMatchesReference'. -/
def treeMatchesReferenceUptoCard : Claim7 := { stood := { row := treeMatchesReferenceUptoRow, standIns := [], harness := (true, "84401d6ef2475bdaa42031bdaa1f3b21f6a74c7349b33b67118e9361c06783ab"), looks := true }, kinds := [], alts := [], laidByText := true, laidKinds := [.data, .data, .data, .data, .pinned], laidTests := true, laidLooks := .later }
def TreeMatchesReferenceUptoCardSaid : Prop := Claim7.holds Tryz.pinned (.plain (OpenSpec.upto treeMatchesReferenceSpec)) treeMatchesReferenceUptoCard

/-- THE SECOND FORM's CARD OF 'customhouselaw03.SealMatchesReference'. -/
def sealMatchesReferenceUptoCard : Claim7 := { stood := { row := sealMatchesReferenceUptoRow, standIns := [], harness := (true, "84401d6ef2475bdaa42031bdaa1f3b21f6a74c7349b33b67118e9361c06783ab"), looks := true }, kinds := [], alts := [], laidByText := true, laidKinds := [.data, .data, .data, .data, .pinned], laidTests := true, laidLooks := .later }
def SealMatchesReferenceUptoCardSaid : Prop := Claim7.holds Tryz.pinned (.plain (OpenSpec.upto sealMatchesReferenceSpec)) sealMatchesReferenceUptoCard

/-- THE SECOND FORM's CARD OF 'customhouselaw03.SealSound'. -/
def sealSoundUptoCard : Claim7 := { stood := { row := sealSoundUptoRow, standIns := [], harness := (true, "84401d6ef2475bdaa42031bdaa1f3b21f6a74c7349b33b67118e9361c06783ab"), looks := true }, kinds := [], alts := [], laidByText := true, laidKinds := [.data, .data, .data, .data, .pinned], laidTests := true, laidLooks := .later }
def SealSoundUptoCardSaid : Prop := Claim7.holds Tryz.pinned (.plain (OpenSpec.upto sealSoundSpec)) sealSoundUptoCard

/-- THE SECOND FORM's CARD OF 'customhouselaw03.SealBinds'. -/
def sealBindsUptoCard : Claim7 := { stood := { row := sealBindsUptoRow, standIns := [], harness := (true, "84401d6ef2475bdaa42031bdaa1f3b21f6a74c7349b33b67118e9361c06783ab"), looks := true }, kinds := [], alts := [], laidByText := true, laidKinds := [.data, .data, .data, .data, .pinned], laidTests := true, laidLooks := .later }
def SealBindsUptoCardSaid : Prop := Claim7.holds Tryz.pinned (.plain (OpenSpec.upto sealBindsSpec)) sealBindsUptoCard

/-- THE SECOND FORM's CARD OF 'customhouselaw03.SealChanges'. -/
def sealChangesUptoCard : Claim7 := { stood := { row := sealChangesUptoRow, standIns := [], harness := (true, "84401d6ef2475bdaa42031bdaa1f3b21f6a74c7349b33b67118e9361c06783ab"), looks := true }, kinds := [], alts := [], laidByText := true, laidKinds := [.data, .data, .data, .data, .pinned], laidTests := true, laidLooks := .later }
def SealChangesUptoCardSaid : Prop := Claim7.holds Tryz.pinned (.plain (OpenSpec.upto sealChangesSpec)) sealChangesUptoCard

/-- THE SECOND FORM's CARD OF 'customhouselaw29.EnduseBinds'. -/
def enduseBindsUptoCard : Claim7 := { stood := { row := enduseBindsUptoRow, standIns := [], harness := (true, "84401d6ef2475bdaa42031bdaa1f3b21f6a74c7349b33b67118e9361c06783ab"), looks := true }, kinds := [], alts := [], laidByText := true, laidKinds := [.data, .data, .data, .data, .pinned], laidTests := true, laidLooks := .later }
def EnduseBindsUptoCardSaid : Prop := Claim7.holds Tryz.pinned (.plain (OpenSpec.upto enduseBindsSpec)) enduseBindsUptoCard

/-- THE SECOND FORM's CARD OF 'customhouselaw29.EnduseRevokes'. -/
def enduseRevokesUptoCard : Claim7 := { stood := { row := enduseRevokesUptoRow, standIns := [], harness := (true, "84401d6ef2475bdaa42031bdaa1f3b21f6a74c7349b33b67118e9361c06783ab"), looks := true }, kinds := [], alts := [], laidByText := true, laidKinds := [.data, .data, .data, .data, .pinned], laidTests := true, laidLooks := .later }
def EnduseRevokesUptoCardSaid : Prop := Claim7.holds Tryz.pinned (.plain (OpenSpec.upto enduseRevokesSpec)) enduseRevokesUptoCard
end Rows
end Go.Proofs.YtdlipbfcadmhjaaGreatDoor
