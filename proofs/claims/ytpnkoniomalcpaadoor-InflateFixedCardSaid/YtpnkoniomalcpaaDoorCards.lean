/-
  DERIVED. GIVEN WITH THE SEED: THE CARDS: each row of YtpnkoniomalcpaaDoorRows.lean that lists a variable, with what it lists TIED to the program's text (the seventh form; the later family's looks); each row that meets fmt, with fmt's text TOLD by the authors' own Lean function (tested against real Go, not proved from fmt's source: count such statements apart). THE CARD IS WHAT COUNTS. Prove the row's statement (the work); the ties are given (YtpnkoniomalcpaaDoorTie.lean); close each card by the builder's one call (the guide's Derived/Test/ToyasCard.lean, 'card_holds'). Laid BY PROGRAM, IN A SANDBOX (cutbox-door.mjs). By AI agents, Wed Nov 11 2026. No macro, syntax, notation, axiom, sorry.
-/
import Derived.Test.YtpnkoniomalcpaaDoorRows
import GoSem.ClaimSeven
namespace Go.Proofs.YtpnkoniomalcpaaDoor
namespace Rows

/-- THE TIED CARD OF 'lighterlaw07.InflateNone'. -/
def inflateNoneCard : Claim7 := { stood := { row := inflateNoneRow, standIns := [], harness := (true, "55a97ccab7e1f3e3c0acef1ddce985bb4519c3906812c3988e873e24c62c6c54"), looks := false }, kinds := [], alts := [], laidByText := true, laidKinds := [.widerDeep], laidTests := true, laidLooks := .later }
def InflateNoneCardSaid : Prop := Claim7.holds Tryd.pinned (.plain (OpenSpec.ofChange inflateNoneSpec)) inflateNoneCard

/-- THE TIED CARD OF 'lighterlaw07.InflateStored'. -/
def inflateStoredCard : Claim7 := { stood := { row := inflateStoredRow, standIns := [], harness := (true, "55a97ccab7e1f3e3c0acef1ddce985bb4519c3906812c3988e873e24c62c6c54"), looks := false }, kinds := [], alts := [], laidByText := true, laidKinds := [.widerDeep], laidTests := true, laidLooks := .later }
def InflateStoredCardSaid : Prop := Claim7.holds Tryd.pinned (.plain (OpenSpec.ofChange inflateStoredSpec)) inflateStoredCard

/-- THE TIED CARD OF 'lighterlaw07.InflateFixed'. -/
def inflateFixedCard : Claim7 := { stood := { row := inflateFixedRow, standIns := [], harness := (true, "55a97ccab7e1f3e3c0acef1ddce985bb4519c3906812c3988e873e24c62c6c54"), looks := false }, kinds := [], alts := [], laidByText := true, laidKinds := [.widerDeep], laidTests := true, laidLooks := .later }
def InflateFixedCardSaid : Prop := Claim7.holds Tryd.pinned (.plain (OpenSpec.ofChange inflateFixedSpec)) inflateFixedCard

/-- THE TIED CARD OF 'lighterlaw07.InflateCopies'. -/
def inflateCopiesCard : Claim7 := { stood := { row := inflateCopiesRow, standIns := [], harness := (true, "55a97ccab7e1f3e3c0acef1ddce985bb4519c3906812c3988e873e24c62c6c54"), looks := false }, kinds := [], alts := [], laidByText := true, laidKinds := [.widerDeep], laidTests := true, laidLooks := .later }
def InflateCopiesCardSaid : Prop := Claim7.holds Tryd.pinned (.plain (OpenSpec.ofChange inflateCopiesSpec)) inflateCopiesCard

/-- THE SECOND FORM's CARD OF 'lighterlaw07.InflateNone'. -/
def inflateNoneUptoCard : Claim7 := { stood := { row := inflateNoneUptoRow, standIns := [], harness := (true, "55a97ccab7e1f3e3c0acef1ddce985bb4519c3906812c3988e873e24c62c6c54"), looks := false }, kinds := [], alts := [], laidByText := true, laidKinds := [.widerDeep], laidTests := true, laidLooks := .later }
def InflateNoneUptoCardSaid : Prop := Claim7.holds Tryd.pinned (.plain (OpenSpec.upto inflateNoneSpec)) inflateNoneUptoCard

/-- THE SECOND FORM's CARD OF 'lighterlaw07.InflateStored'. -/
def inflateStoredUptoCard : Claim7 := { stood := { row := inflateStoredUptoRow, standIns := [], harness := (true, "55a97ccab7e1f3e3c0acef1ddce985bb4519c3906812c3988e873e24c62c6c54"), looks := false }, kinds := [], alts := [], laidByText := true, laidKinds := [.widerDeep], laidTests := true, laidLooks := .later }
def InflateStoredUptoCardSaid : Prop := Claim7.holds Tryd.pinned (.plain (OpenSpec.upto inflateStoredSpec)) inflateStoredUptoCard

/-- THE SECOND FORM's CARD OF 'lighterlaw07.InflateFixed'. -/
def inflateFixedUptoCard : Claim7 := { stood := { row := inflateFixedUptoRow, standIns := [], harness := (true, "55a97ccab7e1f3e3c0acef1ddce985bb4519c3906812c3988e873e24c62c6c54"), looks := false }, kinds := [], alts := [], laidByText := true, laidKinds := [.widerDeep], laidTests := true, laidLooks := .later }
def InflateFixedUptoCardSaid : Prop := Claim7.holds Tryd.pinned (.plain (OpenSpec.upto inflateFixedSpec)) inflateFixedUptoCard

/-- THE SECOND FORM's CARD OF 'lighterlaw07.InflateCopies'. -/
def inflateCopiesUptoCard : Claim7 := { stood := { row := inflateCopiesUptoRow, standIns := [], harness := (true, "55a97ccab7e1f3e3c0acef1ddce985bb4519c3906812c3988e873e24c62c6c54"), looks := false }, kinds := [], alts := [], laidByText := true, laidKinds := [.widerDeep], laidTests := true, laidLooks := .later }
def InflateCopiesUptoCardSaid : Prop := Claim7.holds Tryd.pinned (.plain (OpenSpec.upto inflateCopiesSpec)) inflateCopiesUptoCard
end Rows
end Go.Proofs.YtpnkoniomalcpaaDoor
