/-
  No cell of these rows narrows 'for every input' (looked for: loops, veiled, ifaces, maps, wideKeys, modest, calm, conditions, laid).
  DERIVED. THE GIVEN ROWS OF THIS SEAT. 5 by the template 'for every input the law returns true; each argument reads behind the call as it read before'; 0 by the template 'total and deterministic' (their statements: YtabfckcbijinkaaTotals.lean).
  GIVEN WITH THE SEED: the statements are not yours to turn. If you find one false, say at which input.
  Laid BY PROGRAM, IN A SANDBOX (cutbox-rows.mjs): the forced cells as the released guide's own fill.sh prints them over the translation 70e0eb4102d056b7… (all of the seat's roots in one cut). By AI agents, Wed Nov 11 2026. No macro, syntax, notation, axiom, sorry.
-/
import Derived.Test.YtabfckcbijinkaaChecked
import GoSem.Claim
import GoSem.ClaimJoined
import GoSem.ClaimMapViews
import Derived.JoinedTies
import Derived.KernelRfl
namespace Go.Proofs.Ytabfckcbijinkaa
/- THE CELL 'sum', in the pinned program and in every row, IS THE sha256 OF THE DUMP (.gsa) THAT YtabfckcbijinkaaProg.lean LOADS. Nothing in Lean hashes anything: it is a label: what it is worth is what the hold of that sum in a sandbox is worth. -/
noncomputable def Try.pinned : Pinned := { name := "ytabfckcbijinkaa", sum := "70e0eb4102d056b7f8fb53bcc27d4eee6e32603136e9718609f28f0b74e8832f", checked := Try.checked }
namespace Rows
def none {H : Type} : Left H := { results := [], args := [] }

/-- 'lighterlaw11.DosNumbers': WHATEVER THE INPUT: true; the input reads as it did. -/
def dosNumbersSpec : ChangeSpec := { name := "dosNumbers", fn := fun _ => fun
  | [d1, d2] => { results := [.lit (.bool true)], args := [d1, d2] }
  | _ => none }
def dosNumbersRow : OpenClaim := { program := "ytabfckcbijinkaa", sum := "70e0eb4102d056b7f8fb53bcc27d4eee6e32603136e9718609f28f0b74e8832f", func := "lighter/lighterlaw11.DosNumbers", spec := "dosNumbers", apart := false }
def DosNumbersSaid : Prop := dosNumbersRow.holds Try.pinned (OpenSpec.ofChange dosNumbersSpec)

/-- ITS FALSE NEIGHBOUR: 'it returns false'. Refute it at one input. -/
def dosNumbersWrong : ChangeSpec := { name := "dosNumbers", fn := fun _ => fun
  | [d1, d2] => { results := [.lit (.bool false)], args := [d1, d2] }
  | _ => none }
def DosNumbersWrongFalsely : Prop := dosNumbersRow.holds Try.pinned (OpenSpec.ofChange dosNumbersWrong)

/-- 'lighterlaw11.DosCounts': WHATEVER THE INPUT: true; the input reads as it did. -/
def dosCountsSpec : ChangeSpec := { name := "dosCounts", fn := fun _ => fun
  | [d1, d2] => { results := [.lit (.bool true)], args := [d1, d2] }
  | _ => none }
def dosCountsRow : OpenClaim := { program := "ytabfckcbijinkaa", sum := "70e0eb4102d056b7f8fb53bcc27d4eee6e32603136e9718609f28f0b74e8832f", func := "lighter/lighterlaw11.DosCounts", spec := "dosCounts", apart := false }
def DosCountsSaid : Prop := dosCountsRow.holds Try.pinned (OpenSpec.ofChange dosCountsSpec)

/-- ITS FALSE NEIGHBOUR: 'it returns false'. Refute it at one input. -/
def dosCountsWrong : ChangeSpec := { name := "dosCounts", fn := fun _ => fun
  | [d1, d2] => { results := [.lit (.bool false)], args := [d1, d2] }
  | _ => none }
def DosCountsWrongFalsely : Prop := dosCountsRow.holds Try.pinned (OpenSpec.ofChange dosCountsWrong)

/-- 'lighterlaw05.LzSymbols': WHATEVER THE INPUT: true; the input reads as it did. -/
def lzSymbolsSpec : ChangeSpec := { name := "lzSymbols", fn := fun _ => fun
  | [d1, d2] => { results := [.lit (.bool true)], args := [d1, d2] }
  | _ => none }
def lzSymbolsRow : OpenClaim := { program := "ytabfckcbijinkaa", sum := "70e0eb4102d056b7f8fb53bcc27d4eee6e32603136e9718609f28f0b74e8832f", func := "lighter/lighterlaw05.LzSymbols", spec := "lzSymbols", unfollowed := true, recurses := true, apart := false }
def LzSymbolsSaid : Prop := lzSymbolsRow.holds Try.pinned (OpenSpec.ofChange lzSymbolsSpec)

/-- ITS FALSE NEIGHBOUR: 'it returns false'. Refute it at one input. -/
def lzSymbolsWrong : ChangeSpec := { name := "lzSymbols", fn := fun _ => fun
  | [d1, d2] => { results := [.lit (.bool false)], args := [d1, d2] }
  | _ => none }
def LzSymbolsWrongFalsely : Prop := lzSymbolsRow.holds Try.pinned (OpenSpec.ofChange lzSymbolsWrong)

/-- 'lighterlaw05.LzWhole': WHATEVER THE INPUT: true; the input reads as it did. -/
def lzWholeSpec : ChangeSpec := { name := "lzWhole", fn := fun _ => fun
  | [d] => { results := [.lit (.bool true)], args := [d] }
  | _ => none }
def lzWholeRow : OpenClaim := { program := "ytabfckcbijinkaa", sum := "70e0eb4102d056b7f8fb53bcc27d4eee6e32603136e9718609f28f0b74e8832f", func := "lighter/lighterlaw05.LzWhole", spec := "lzWhole", unfollowed := true, recurses := true, apart := false }
def LzWholeSaid : Prop := lzWholeRow.holds Try.pinned (OpenSpec.ofChange lzWholeSpec)

/-- ITS FALSE NEIGHBOUR: 'it returns false'. Refute it at one input. -/
def lzWholeWrong : ChangeSpec := { name := "lzWhole", fn := fun _ => fun
  | [d] => { results := [.lit (.bool false)], args := [d] }
  | _ => none }
def LzWholeWrongFalsely : Prop := lzWholeRow.holds Try.pinned (OpenSpec.ofChange lzWholeWrong)

/-- 'lighterlaw11.DosPacks': WHATEVER THE INPUT: true; the input reads as it did. -/
def dosPacksSpec : ChangeSpec := { name := "dosPacks", fn := fun _ => fun
  | [d] => { results := [.lit (.bool true)], args := [d] }
  | _ => none }
def dosPacksRow : OpenClaim := { program := "ytabfckcbijinkaa", sum := "70e0eb4102d056b7f8fb53bcc27d4eee6e32603136e9718609f28f0b74e8832f", func := "lighter/lighterlaw11.DosPacks", spec := "dosPacks", apart := false }
def DosPacksSaid : Prop := dosPacksRow.holds Try.pinned (OpenSpec.ofChange dosPacksSpec)

/-- ITS FALSE NEIGHBOUR: 'it returns false'. Refute it at one input. -/
def dosPacksWrong : ChangeSpec := { name := "dosPacks", fn := fun _ => fun
  | [d] => { results := [.lit (.bool false)], args := [d] }
  | _ => none }
def DosPacksWrongFalsely : Prop := dosPacksRow.holds Try.pinned (OpenSpec.ofChange dosPacksWrong)

/- THE SECOND FORM. 'bulk': how many values and letters a reading holds, each counted each time it is reached (what is shared counts as often as it is met; a slice's spare places count too). A statement '..UptoSaid' is the law's where the arguments, and the package variables that the reading takes, are together of bulk at most 1048576: NARROWER than '..Said'. Prove '..Said' where nothing that the law and all that it calls make is longer than what came in: it says more and counts as full. Else prove '..UptoSaid'. A law counts once. -/
mutual
def uptoBulk {H : Type} : DataW H → Nat
  | .lit (.string bytes) => bytes.length + 1
  | .lit _ => 1
  | .nil => 1
  | .ptr d => uptoBulk d + 1
  | .slice elems spare => uptoBulkAll elems + uptoBulkAll spare + 1
  | .agg parts => uptoBulkAll parts + 1
  | .iface _ d => uptoBulk d + 1
  | .map entries => uptoBulkEntries entries + 1
  | .held _ => 1
def uptoBulkAll {H : Type} : List (DataW H) → Nat
  | [] => 0
  | d :: r => uptoBulk d + uptoBulkAll r
def uptoBulkEntries {H : Type} : List (Lit × DataW H) → Nat
  | [] => 0
  | x :: r => uptoBulkEntry x + uptoBulkEntries r
def uptoBulkEntry {H : Type} : Lit × DataW H → Nat
  | (.string bytes, d) => bytes.length + uptoBulk d + 1
  | (_, d) => uptoBulk d + 1
 end
def uptoSmall : (H : Type) → List (DataW H) → Bool := fun _ ds => decide (uptoBulkAll ds ≤ 1048576)
def OpenSpec.upto (s : _root_.Go.ChangeSpec) : _root_.Go.OpenSpec := { _root_.Go.OpenSpec.ofChange s with cond := some uptoSmall }

/-- 'lighterlaw11.DosNumbers', WHERE WHAT IT READS IS OF BULK AT MOST 1048576: true; the input reads as it did. -/
def dosNumbersUptoRow : OpenClaim := { program := "ytabfckcbijinkaa", sum := "70e0eb4102d056b7f8fb53bcc27d4eee6e32603136e9718609f28f0b74e8832f", func := "lighter/lighterlaw11.DosNumbers", spec := "dosNumbers", apart := false, narrowed := true }
def DosNumbersUptoSaid : Prop := dosNumbersUptoRow.holds Try.pinned (OpenSpec.upto dosNumbersSpec)

/-- 'lighterlaw11.DosCounts', WHERE WHAT IT READS IS OF BULK AT MOST 1048576: true; the input reads as it did. -/
def dosCountsUptoRow : OpenClaim := { program := "ytabfckcbijinkaa", sum := "70e0eb4102d056b7f8fb53bcc27d4eee6e32603136e9718609f28f0b74e8832f", func := "lighter/lighterlaw11.DosCounts", spec := "dosCounts", apart := false, narrowed := true }
def DosCountsUptoSaid : Prop := dosCountsUptoRow.holds Try.pinned (OpenSpec.upto dosCountsSpec)

/-- 'lighterlaw05.LzSymbols', WHERE WHAT IT READS IS OF BULK AT MOST 1048576: true; the input reads as it did. -/
def lzSymbolsUptoRow : OpenClaim := { program := "ytabfckcbijinkaa", sum := "70e0eb4102d056b7f8fb53bcc27d4eee6e32603136e9718609f28f0b74e8832f", func := "lighter/lighterlaw05.LzSymbols", spec := "lzSymbols", unfollowed := true, recurses := true, apart := false, narrowed := true }
def LzSymbolsUptoSaid : Prop := lzSymbolsUptoRow.holds Try.pinned (OpenSpec.upto lzSymbolsSpec)

/-- 'lighterlaw05.LzWhole', WHERE WHAT IT READS IS OF BULK AT MOST 1048576: true; the input reads as it did. -/
def lzWholeUptoRow : OpenClaim := { program := "ytabfckcbijinkaa", sum := "70e0eb4102d056b7f8fb53bcc27d4eee6e32603136e9718609f28f0b74e8832f", func := "lighter/lighterlaw05.LzWhole", spec := "lzWhole", unfollowed := true, recurses := true, apart := false, narrowed := true }
def LzWholeUptoSaid : Prop := lzWholeUptoRow.holds Try.pinned (OpenSpec.upto lzWholeSpec)

/-- 'lighterlaw11.DosPacks', WHERE WHAT IT READS IS OF BULK AT MOST 1048576: true; the input reads as it did. -/
def dosPacksUptoRow : OpenClaim := { program := "ytabfckcbijinkaa", sum := "70e0eb4102d056b7f8fb53bcc27d4eee6e32603136e9718609f28f0b74e8832f", func := "lighter/lighterlaw11.DosPacks", spec := "dosPacks", apart := false, narrowed := true }
def DosPacksUptoSaid : Prop := dosPacksUptoRow.holds Try.pinned (OpenSpec.upto dosPacksSpec)

end Rows
end Go.Proofs.Ytabfckcbijinkaa
