/-
  DERIVED. GIVEN WITH THE SEED: THE CARDS: each row of YtpcgccdmmoggmaaGreatDoorRows.lean that lists a variable, with what it lists TIED to the program's text (the seventh form; the later family's looks); each row that meets fmt, with fmt's text TOLD by the authors' own Lean function (tested against real Go, not proved from fmt's source: count such statements apart). THE CARD IS WHAT COUNTS. Prove the row's statement (the work); the ties are given (YtpcgccdmmoggmaaGreatDoorTie.lean); close each card by the builder's one call (the guide's Derived/Test/ToyasCard.lean, 'card_holds'). Laid BY PROGRAM, IN A SANDBOX (cutbox-door.mjs). By AI agents, Wed Nov 11 2026. No macro, syntax, notation, axiom, sorry.
-/
import Derived.Test.YtpcgccdmmoggmaaGreatDoorRows
import GoSem.ClaimSeven
namespace Go.Proofs.YtpcgccdmmoggmaaGreatDoor
namespace Rows

/-- THE TIED CARD OF 'lightertop.TopArchives'. -/
def topArchivesCard : Claim7 := { stood := { row := topArchivesRow, standIns := [], harness := (true, "ff86a9bbbee56acf0164f6c32c5843417354baeffbd7e783743294b2dfe31c9a"), looks := false }, kinds := [], alts := [], laidByText := true, laidKinds := [.data, .data, .widerDeep, .widerDeep, .pinned], laidTests := true, laidLooks := .later }
def TopArchivesCardSaid : Prop := Claim7.holds Tryz.pinned (.plain (OpenSpec.ofChange topArchivesSpec)) topArchivesCard

/-- THE TIED CARD OF 'lightertop.TopMended'. -/
def topMendedCard : Claim7 := { stood := { row := topMendedRow, standIns := [], harness := (true, "ff86a9bbbee56acf0164f6c32c5843417354baeffbd7e783743294b2dfe31c9a"), looks := false }, kinds := [], alts := [], laidByText := true, laidKinds := [.data, .data, .widerDeep, .widerDeep, .pinned], laidTests := true, laidLooks := .later }
def TopMendedCardSaid : Prop := Claim7.holds Tryz.pinned (.plain (OpenSpec.ofChange topMendedSpec)) topMendedCard

/-- THE TIED CARD OF 'lightertop.TopKeeps'. -/
def topKeepsCard : Claim7 := { stood := { row := topKeepsRow, standIns := [], harness := (true, "ff86a9bbbee56acf0164f6c32c5843417354baeffbd7e783743294b2dfe31c9a"), looks := false }, kinds := [], alts := [], laidByText := true, laidKinds := [.data, .data, .widerDeep, .widerDeep, .pinned], laidTests := true, laidLooks := .later }
def TopKeepsCardSaid : Prop := Claim7.holds Tryz.pinned (.plain (OpenSpec.ofChange topKeepsSpec)) topKeepsCard

/-- THE SECOND FORM's CARD OF 'lightertop.TopArchives'. -/
def topArchivesUptoCard : Claim7 := { stood := { row := topArchivesUptoRow, standIns := [], harness := (true, "ff86a9bbbee56acf0164f6c32c5843417354baeffbd7e783743294b2dfe31c9a"), looks := false }, kinds := [], alts := [], laidByText := true, laidKinds := [.data, .data, .widerDeep, .widerDeep, .pinned], laidTests := true, laidLooks := .later }
def TopArchivesUptoCardSaid : Prop := Claim7.holds Tryz.pinned (.plain (OpenSpec.upto topArchivesSpec)) topArchivesUptoCard

/-- THE SECOND FORM's CARD OF 'lightertop.TopMended'. -/
def topMendedUptoCard : Claim7 := { stood := { row := topMendedUptoRow, standIns := [], harness := (true, "ff86a9bbbee56acf0164f6c32c5843417354baeffbd7e783743294b2dfe31c9a"), looks := false }, kinds := [], alts := [], laidByText := true, laidKinds := [.data, .data, .widerDeep, .widerDeep, .pinned], laidTests := true, laidLooks := .later }
def TopMendedUptoCardSaid : Prop := Claim7.holds Tryz.pinned (.plain (OpenSpec.upto topMendedSpec)) topMendedUptoCard

/-- THE SECOND FORM's CARD OF 'lightertop.TopKeeps'. -/
def topKeepsUptoCard : Claim7 := { stood := { row := topKeepsUptoRow, standIns := [], harness := (true, "ff86a9bbbee56acf0164f6c32c5843417354baeffbd7e783743294b2dfe31c9a"), looks := false }, kinds := [], alts := [], laidByText := true, laidKinds := [.data, .data, .widerDeep, .widerDeep, .pinned], laidTests := true, laidLooks := .later }
def TopKeepsUptoCardSaid : Prop := Claim7.holds Tryz.pinned (.plain (OpenSpec.upto topKeepsSpec)) topKeepsUptoCard
end Rows
end Go.Proofs.YtpcgccdmmoggmaaGreatDoor
