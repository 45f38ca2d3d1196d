/-
  DERIVED. GIVEN WITH THE SEED: THE CARDS: each row of YtfmbgnchedhneaaDoorRows.lean that lists a variable, with what it lists TIED to the program's text (the seventh form; the later family's looks); each row that meets fmt, with fmt's text TOLD by the authors' own Lean function (tested against real Go, not proved from fmt's source: count such statements apart). THE CARD IS WHAT COUNTS. Prove the row's statement (the work); the ties are given (YtfmbgnchedhneaaDoorTie.lean); close each card by the builder's one call (the guide's Derived/Test/ToyasCard.lean, 'card_holds'). Laid BY PROGRAM, IN A SANDBOX (cutbox-door.mjs). By AI agents, Wed Nov 11 2026. No macro, syntax, notation, axiom, sorry.
-/
import Derived.Test.YtfmbgnchedhneaaDoorRows
import GoSem.ClaimSeven
namespace Go.Proofs.YtfmbgnchedhneaaDoor
namespace Rows

/-- THE TIED CARD OF 'lighterlaw08.MatchLongest'. -/
def matchLongestCard : Claim7 := { stood := { row := matchLongestRow, standIns := [], harness := (true, "abb27bbc7c3809cb8ef1324fb724abbc25b725310a1dd5e823414891e16478a5"), looks := false }, kinds := [], alts := [], laidByText := true, laidKinds := [.data], laidTests := true, laidLooks := .later }
def MatchLongestCardSaid : Prop := Claim7.holds Tryd.pinned (.plain (OpenSpec.ofChange matchLongestSpec)) matchLongestCard

/-- THE TIED CARD OF 'lighterlaw08.MatchRuns'. -/
def matchRunsCard : Claim7 := { stood := { row := matchRunsRow, standIns := [], harness := (true, "abb27bbc7c3809cb8ef1324fb724abbc25b725310a1dd5e823414891e16478a5"), looks := false }, kinds := [], alts := [], laidByText := true, laidKinds := [.data], laidTests := true, laidLooks := .later }
def MatchRunsCardSaid : Prop := Claim7.holds Tryd.pinned (.plain (OpenSpec.ofChange matchRunsSpec)) matchRunsCard

/-- THE TIED CARD OF 'lighterlaw11.DosTexts'. -/
def dosTextsCard : Claim7 := { stood := { row := dosTextsRow, standIns := [], harness := (true, "abb27bbc7c3809cb8ef1324fb724abbc25b725310a1dd5e823414891e16478a5"), looks := false }, kinds := [], alts := [], laidByText := true, laidKinds := [.data], laidTests := true, laidLooks := .later }
def DosTextsCardSaid : Prop := Claim7.holds Tryd.pinned (.plain (OpenSpec.ofChange dosTextsSpec)) dosTextsCard

/-- THE TIED CARD OF 'lighterlaw08.MatchTokens'. -/
def matchTokensCard : Claim7 := { stood := { row := matchTokensRow, standIns := [], harness := (true, "abb27bbc7c3809cb8ef1324fb724abbc25b725310a1dd5e823414891e16478a5"), looks := false }, kinds := [], alts := [], laidByText := true, laidKinds := [.data], laidTests := true, laidLooks := .later }
def MatchTokensCardSaid : Prop := Claim7.holds Tryd.pinned (.plain (OpenSpec.ofChange matchTokensSpec)) matchTokensCard

/-- THE TIED CARD OF 'lighterlaw08.MatchFar'. -/
def matchFarCard : Claim7 := { stood := { row := matchFarRow, standIns := [], harness := (true, "abb27bbc7c3809cb8ef1324fb724abbc25b725310a1dd5e823414891e16478a5"), looks := false }, kinds := [], alts := [], laidByText := true, laidKinds := [.data], laidTests := true, laidLooks := .later }
def MatchFarCardSaid : Prop := Claim7.holds Tryd.pinned (.plain (OpenSpec.ofChange matchFarSpec)) matchFarCard

/-- THE TIED CARD OF 'lighterlaw08.MatchFewest'. -/
def matchFewestCard : Claim7 := { stood := { row := matchFewestRow, standIns := [], harness := (true, "abb27bbc7c3809cb8ef1324fb724abbc25b725310a1dd5e823414891e16478a5"), looks := false }, kinds := [], alts := [], laidByText := true, laidKinds := [.data], laidTests := true, laidLooks := .later }
def MatchFewestCardSaid : Prop := Claim7.holds Tryd.pinned (.plain (OpenSpec.ofChange matchFewestSpec)) matchFewestCard

/-- THE SECOND FORM's CARD OF 'lighterlaw08.MatchLongest'. -/
def matchLongestUptoCard : Claim7 := { stood := { row := matchLongestUptoRow, standIns := [], harness := (true, "abb27bbc7c3809cb8ef1324fb724abbc25b725310a1dd5e823414891e16478a5"), looks := false }, kinds := [], alts := [], laidByText := true, laidKinds := [.data], laidTests := true, laidLooks := .later }
def MatchLongestUptoCardSaid : Prop := Claim7.holds Tryd.pinned (.plain (OpenSpec.upto matchLongestSpec)) matchLongestUptoCard

/-- THE SECOND FORM's CARD OF 'lighterlaw08.MatchRuns'. -/
def matchRunsUptoCard : Claim7 := { stood := { row := matchRunsUptoRow, standIns := [], harness := (true, "abb27bbc7c3809cb8ef1324fb724abbc25b725310a1dd5e823414891e16478a5"), looks := false }, kinds := [], alts := [], laidByText := true, laidKinds := [.data], laidTests := true, laidLooks := .later }
def MatchRunsUptoCardSaid : Prop := Claim7.holds Tryd.pinned (.plain (OpenSpec.upto matchRunsSpec)) matchRunsUptoCard

/-- THE SECOND FORM's CARD OF 'lighterlaw11.DosTexts'. -/
def dosTextsUptoCard : Claim7 := { stood := { row := dosTextsUptoRow, standIns := [], harness := (true, "abb27bbc7c3809cb8ef1324fb724abbc25b725310a1dd5e823414891e16478a5"), looks := false }, kinds := [], alts := [], laidByText := true, laidKinds := [.data], laidTests := true, laidLooks := .later }
def DosTextsUptoCardSaid : Prop := Claim7.holds Tryd.pinned (.plain (OpenSpec.upto dosTextsSpec)) dosTextsUptoCard

/-- THE SECOND FORM's CARD OF 'lighterlaw08.MatchTokens'. -/
def matchTokensUptoCard : Claim7 := { stood := { row := matchTokensUptoRow, standIns := [], harness := (true, "abb27bbc7c3809cb8ef1324fb724abbc25b725310a1dd5e823414891e16478a5"), looks := false }, kinds := [], alts := [], laidByText := true, laidKinds := [.data], laidTests := true, laidLooks := .later }
def MatchTokensUptoCardSaid : Prop := Claim7.holds Tryd.pinned (.plain (OpenSpec.upto matchTokensSpec)) matchTokensUptoCard

/-- THE SECOND FORM's CARD OF 'lighterlaw08.MatchFar'. -/
def matchFarUptoCard : Claim7 := { stood := { row := matchFarUptoRow, standIns := [], harness := (true, "abb27bbc7c3809cb8ef1324fb724abbc25b725310a1dd5e823414891e16478a5"), looks := false }, kinds := [], alts := [], laidByText := true, laidKinds := [.data], laidTests := true, laidLooks := .later }
def MatchFarUptoCardSaid : Prop := Claim7.holds Tryd.pinned (.plain (OpenSpec.upto matchFarSpec)) matchFarUptoCard

/-- THE SECOND FORM's CARD OF 'lighterlaw08.MatchFewest'. -/
def matchFewestUptoCard : Claim7 := { stood := { row := matchFewestUptoRow, standIns := [], harness := (true, "abb27bbc7c3809cb8ef1324fb724abbc25b725310a1dd5e823414891e16478a5"), looks := false }, kinds := [], alts := [], laidByText := true, laidKinds := [.data], laidTests := true, laidLooks := .later }
def MatchFewestUptoCardSaid : Prop := Claim7.holds Tryd.pinned (.plain (OpenSpec.upto matchFewestSpec)) matchFewestUptoCard
end Rows
end Go.Proofs.YtfmbgnchedhneaaDoor
