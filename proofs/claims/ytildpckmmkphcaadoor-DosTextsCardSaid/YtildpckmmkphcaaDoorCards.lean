/-
  DERIVED. GIVEN WITH THE SEED: THE CARDS: each row of YtildpckmmkphcaaDoorRows.lean that lists a variable, with what it lists TIED to the program's text (the seventh form; the later family's looks); each row that meets fmt, with fmt's text TOLD by the authors' own Lean function (tested against real Go, not proved from fmt's source: count such statements apart). THE CARD IS WHAT COUNTS. Prove the row's statement (the work); the ties are given (YtildpckmmkphcaaDoorTie.lean); close each card by the builder's one call (the guide's Derived/Test/ToyasCard.lean, 'card_holds'). Laid BY PROGRAM, IN A SANDBOX (cutbox-door.mjs). By AI agents, Wed Nov 11 2026. No macro, syntax, notation, axiom, sorry.
-/
import Derived.Test.YtildpckmmkphcaaDoorRows
import GoSem.ClaimSeven
namespace Go.Proofs.YtildpckmmkphcaaDoor
namespace Rows

/-- THE TIED CARD OF 'lighterlaw11.DosTexts'. -/
def dosTextsCard : Claim7 := { stood := { row := dosTextsRow, standIns := [], harness := (true, "33c9057fe8de91dd0f531247924c9a03dbb62b25d659e41ec0e1173452c741f1"), looks := false }, kinds := [], alts := [], laidByText := true, laidKinds := [.data], laidTests := true, laidLooks := .later }
def DosTextsCardSaid : Prop := Claim7.holds Tryd.pinned (.plain (OpenSpec.ofChange dosTextsSpec)) dosTextsCard

/-- THE SECOND FORM's CARD OF 'lighterlaw11.DosTexts'. -/
def dosTextsUptoCard : Claim7 := { stood := { row := dosTextsUptoRow, standIns := [], harness := (true, "33c9057fe8de91dd0f531247924c9a03dbb62b25d659e41ec0e1173452c741f1"), looks := false }, kinds := [], alts := [], laidByText := true, laidKinds := [.data], laidTests := true, laidLooks := .later }
def DosTextsUptoCardSaid : Prop := Claim7.holds Tryd.pinned (.plain (OpenSpec.upto dosTextsSpec)) dosTextsUptoCard
end Rows
end Go.Proofs.YtildpckmmkphcaaDoor
