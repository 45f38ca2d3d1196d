/-
  No cell of these rows narrows 'for every input' (looked for: loops, veiled, ifaces, maps, wideKeys, modest, calm, conditions, laid).
  DERIVED. THE GIVEN ROWS OF THIS SEAT. 6 by the template 'for every input the law returns true; each argument reads behind the call as it read before'; 0 by the template 'total and deterministic' (their statements: YtecmldekdgjpnaaTotals.lean).
  GIVEN WITH THE SEED: the statements are not yours to turn. If you find one false, say at which input.
  Laid BY PROGRAM, IN A SANDBOX (cutbox-rows.mjs): the forced cells as the released guide's own fill.sh prints them over the translation d07d06c7726cdabc… (all of the seat's roots in one cut). By AI agents, Wed Nov 11 2026. No macro, syntax, notation, axiom, sorry.
-/
import Derived.Test.YtecmldekdgjpnaaChecked
import GoSem.Claim
import GoSem.ClaimJoined
import GoSem.ClaimMapViews
import Derived.JoinedTies
import Derived.KernelRfl
namespace Go.Proofs.Ytecmldekdgjpnaa
/- THE CELL 'sum', in the pinned program and in every row, IS THE sha256 OF THE DUMP (.gsa) THAT YtecmldekdgjpnaaProg.lean LOADS. Nothing in Lean hashes anything: it is a label: what it is worth is what the hold of that sum in a sandbox is worth. -/
noncomputable def Try.pinned : Pinned := { name := "ytecmldekdgjpnaa", sum := "d07d06c7726cdabcd2487efa74cc4eb1f4fac9d702c9071811cdec69e6bc0305", checked := Try.checked }
namespace Rows
def none {H : Type} : Left H := { results := [], args := [] }

/-- 'lighterlaw06.WindowCopies': WHATEVER THE INPUT: true; the input reads as it did. -/
def windowCopiesSpec : ChangeSpec := { name := "windowCopies", fn := fun _ => fun
  | [d1, d2, d3] => { results := [.lit (.bool true)], args := [d1, d2, d3] }
  | _ => none }
def windowCopiesRow : OpenClaim := { program := "ytecmldekdgjpnaa", sum := "d07d06c7726cdabcd2487efa74cc4eb1f4fac9d702c9071811cdec69e6bc0305", func := "lighter/lighterlaw06.WindowCopies", spec := "windowCopies", apart := false }
def WindowCopiesSaid : Prop := windowCopiesRow.holds Try.pinned (OpenSpec.ofChange windowCopiesSpec)

/-- ITS FALSE NEIGHBOUR: 'it returns false'. Refute it at one input. -/
def windowCopiesWrong : ChangeSpec := { name := "windowCopies", fn := fun _ => fun
  | [d1, d2, d3] => { results := [.lit (.bool false)], args := [d1, d2, d3] }
  | _ => none }
def WindowCopiesWrongFalsely : Prop := windowCopiesRow.holds Try.pinned (OpenSpec.ofChange windowCopiesWrong)

/-- 'lighterlaw06.WindowPlays': WHATEVER THE INPUT: true; the input reads as it did. -/
def windowPlaysSpec : ChangeSpec := { name := "windowPlays", fn := fun _ => fun
  | [d1, d2] => { results := [.lit (.bool true)], args := [d1, d2] }
  | _ => none }
def windowPlaysRow : OpenClaim := { program := "ytecmldekdgjpnaa", sum := "d07d06c7726cdabcd2487efa74cc4eb1f4fac9d702c9071811cdec69e6bc0305", func := "lighter/lighterlaw06.WindowPlays", spec := "windowPlays", apart := false }
def WindowPlaysSaid : Prop := windowPlaysRow.holds Try.pinned (OpenSpec.ofChange windowPlaysSpec)

/-- ITS FALSE NEIGHBOUR: 'it returns false'. Refute it at one input. -/
def windowPlaysWrong : ChangeSpec := { name := "windowPlays", fn := fun _ => fun
  | [d1, d2] => { results := [.lit (.bool false)], args := [d1, d2] }
  | _ => none }
def WindowPlaysWrongFalsely : Prop := windowPlaysRow.holds Try.pinned (OpenSpec.ofChange windowPlaysWrong)

/-- 'lighterlaw06.WindowNone': WHATEVER THE INPUT: true; the input reads as it did. -/
def windowNoneSpec : ChangeSpec := { name := "windowNone", fn := fun _ => fun
  | [d1, d2] => { results := [.lit (.bool true)], args := [d1, d2] }
  | _ => none }
def windowNoneRow : OpenClaim := { program := "ytecmldekdgjpnaa", sum := "d07d06c7726cdabcd2487efa74cc4eb1f4fac9d702c9071811cdec69e6bc0305", func := "lighter/lighterlaw06.WindowNone", spec := "windowNone", apart := false }
def WindowNoneSaid : Prop := windowNoneRow.holds Try.pinned (OpenSpec.ofChange windowNoneSpec)

/-- ITS FALSE NEIGHBOUR: 'it returns false'. Refute it at one input. -/
def windowNoneWrong : ChangeSpec := { name := "windowNone", fn := fun _ => fun
  | [d1, d2] => { results := [.lit (.bool false)], args := [d1, d2] }
  | _ => none }
def WindowNoneWrongFalsely : Prop := windowNoneRow.holds Try.pinned (OpenSpec.ofChange windowNoneWrong)

/-- 'lighterlaw05.LzExpands': WHATEVER THE INPUT: true; the input reads as it did. -/
def lzExpandsSpec : ChangeSpec := { name := "lzExpands", fn := fun _ => fun
  | [d1, d2] => { results := [.lit (.bool true)], args := [d1, d2] }
  | _ => none }
def lzExpandsRow : OpenClaim := { program := "ytecmldekdgjpnaa", sum := "d07d06c7726cdabcd2487efa74cc4eb1f4fac9d702c9071811cdec69e6bc0305", func := "lighter/lighterlaw05.LzExpands", spec := "lzExpands", unfollowed := true, recurses := true, apart := false }
def LzExpandsSaid : Prop := lzExpandsRow.holds Try.pinned (OpenSpec.ofChange lzExpandsSpec)

/-- ITS FALSE NEIGHBOUR: 'it returns false'. Refute it at one input. -/
def lzExpandsWrong : ChangeSpec := { name := "lzExpands", fn := fun _ => fun
  | [d1, d2] => { results := [.lit (.bool false)], args := [d1, d2] }
  | _ => none }
def LzExpandsWrongFalsely : Prop := lzExpandsRow.holds Try.pinned (OpenSpec.ofChange lzExpandsWrong)

/-- 'lighterlaw06.WindowMatches': WHATEVER THE INPUT: true; the input reads as it did. -/
def windowMatchesSpec : ChangeSpec := { name := "windowMatches", fn := fun _ => fun
  | [d1, d2, d3] => { results := [.lit (.bool true)], args := [d1, d2, d3] }
  | _ => none }
def windowMatchesRow : OpenClaim := { program := "ytecmldekdgjpnaa", sum := "d07d06c7726cdabcd2487efa74cc4eb1f4fac9d702c9071811cdec69e6bc0305", func := "lighter/lighterlaw06.WindowMatches", spec := "windowMatches", apart := false }
def WindowMatchesSaid : Prop := windowMatchesRow.holds Try.pinned (OpenSpec.ofChange windowMatchesSpec)

/-- ITS FALSE NEIGHBOUR: 'it returns false'. Refute it at one input. -/
def windowMatchesWrong : ChangeSpec := { name := "windowMatches", fn := fun _ => fun
  | [d1, d2, d3] => { results := [.lit (.bool false)], args := [d1, d2, d3] }
  | _ => none }
def WindowMatchesWrongFalsely : Prop := windowMatchesRow.holds Try.pinned (OpenSpec.ofChange windowMatchesWrong)

/-- 'lighterlaw05.LzCuts': WHATEVER THE INPUT: true; the input reads as it did. -/
def lzCutsSpec : ChangeSpec := { name := "lzCuts", fn := fun _ => fun
  | [d1, d2, d3] => { results := [.lit (.bool true)], args := [d1, d2, d3] }
  | _ => none }
def lzCutsRow : OpenClaim := { program := "ytecmldekdgjpnaa", sum := "d07d06c7726cdabcd2487efa74cc4eb1f4fac9d702c9071811cdec69e6bc0305", func := "lighter/lighterlaw05.LzCuts", spec := "lzCuts", unfollowed := true, recurses := true, apart := false }
def LzCutsSaid : Prop := lzCutsRow.holds Try.pinned (OpenSpec.ofChange lzCutsSpec)

/-- ITS FALSE NEIGHBOUR: 'it returns false'. Refute it at one input. -/
def lzCutsWrong : ChangeSpec := { name := "lzCuts", fn := fun _ => fun
  | [d1, d2, d3] => { results := [.lit (.bool false)], args := [d1, d2, d3] }
  | _ => none }
def LzCutsWrongFalsely : Prop := lzCutsRow.holds Try.pinned (OpenSpec.ofChange lzCutsWrong)

/- THE SECOND FORM. 'bulk': how many values and letters a reading holds, each counted each time it is reached (what is shared counts as often as it is met; a slice's spare places count too). A statement '..UptoSaid' is the law's where the arguments, and the package variables that the reading takes, are together of bulk at most 1048576: NARROWER than '..Said'. Prove '..Said' where nothing that the law and all that it calls make is longer than what came in: it says more and counts as full. Else prove '..UptoSaid'. A law counts once. -/
mutual
def uptoBulk {H : Type} : DataW H → Nat
  | .lit (.string bytes) => bytes.length + 1
  | .lit _ => 1
  | .nil => 1
  | .ptr d => uptoBulk d + 1
  | .slice elems spare => uptoBulkAll elems + uptoBulkAll spare + 1
  | .agg parts => uptoBulkAll parts + 1
  | .iface _ d => uptoBulk d + 1
  | .map entries => uptoBulkEntries entries + 1
  | .held _ => 1
def uptoBulkAll {H : Type} : List (DataW H) → Nat
  | [] => 0
  | d :: r => uptoBulk d + uptoBulkAll r
def uptoBulkEntries {H : Type} : List (Lit × DataW H) → Nat
  | [] => 0
  | x :: r => uptoBulkEntry x + uptoBulkEntries r
def uptoBulkEntry {H : Type} : Lit × DataW H → Nat
  | (.string bytes, d) => bytes.length + uptoBulk d + 1
  | (_, d) => uptoBulk d + 1
 end
def uptoSmall : (H : Type) → List (DataW H) → Bool := fun _ ds => decide (uptoBulkAll ds ≤ 1048576)
def OpenSpec.upto (s : _root_.Go.ChangeSpec) : _root_.Go.OpenSpec := { _root_.Go.OpenSpec.ofChange s with cond := some uptoSmall }

/-- 'lighterlaw06.WindowCopies', WHERE WHAT IT READS IS OF BULK AT MOST 1048576: true; the input reads as it did. -/
def windowCopiesUptoRow : OpenClaim := { program := "ytecmldekdgjpnaa", sum := "d07d06c7726cdabcd2487efa74cc4eb1f4fac9d702c9071811cdec69e6bc0305", func := "lighter/lighterlaw06.WindowCopies", spec := "windowCopies", apart := false, narrowed := true }
def WindowCopiesUptoSaid : Prop := windowCopiesUptoRow.holds Try.pinned (OpenSpec.upto windowCopiesSpec)

/-- 'lighterlaw06.WindowPlays', WHERE WHAT IT READS IS OF BULK AT MOST 1048576: true; the input reads as it did. -/
def windowPlaysUptoRow : OpenClaim := { program := "ytecmldekdgjpnaa", sum := "d07d06c7726cdabcd2487efa74cc4eb1f4fac9d702c9071811cdec69e6bc0305", func := "lighter/lighterlaw06.WindowPlays", spec := "windowPlays", apart := false, narrowed := true }
def WindowPlaysUptoSaid : Prop := windowPlaysUptoRow.holds Try.pinned (OpenSpec.upto windowPlaysSpec)

/-- 'lighterlaw06.WindowNone', WHERE WHAT IT READS IS OF BULK AT MOST 1048576: true; the input reads as it did. -/
def windowNoneUptoRow : OpenClaim := { program := "ytecmldekdgjpnaa", sum := "d07d06c7726cdabcd2487efa74cc4eb1f4fac9d702c9071811cdec69e6bc0305", func := "lighter/lighterlaw06.WindowNone", spec := "windowNone", apart := false, narrowed := true }
def WindowNoneUptoSaid : Prop := windowNoneUptoRow.holds Try.pinned (OpenSpec.upto windowNoneSpec)

/-- 'lighterlaw05.LzExpands', WHERE WHAT IT READS IS OF BULK AT MOST 1048576: true; the input reads as it did. -/
def lzExpandsUptoRow : OpenClaim := { program := "ytecmldekdgjpnaa", sum := "d07d06c7726cdabcd2487efa74cc4eb1f4fac9d702c9071811cdec69e6bc0305", func := "lighter/lighterlaw05.LzExpands", spec := "lzExpands", unfollowed := true, recurses := true, apart := false, narrowed := true }
def LzExpandsUptoSaid : Prop := lzExpandsUptoRow.holds Try.pinned (OpenSpec.upto lzExpandsSpec)

/-- 'lighterlaw06.WindowMatches', WHERE WHAT IT READS IS OF BULK AT MOST 1048576: true; the input reads as it did. -/
def windowMatchesUptoRow : OpenClaim := { program := "ytecmldekdgjpnaa", sum := "d07d06c7726cdabcd2487efa74cc4eb1f4fac9d702c9071811cdec69e6bc0305", func := "lighter/lighterlaw06.WindowMatches", spec := "windowMatches", apart := false, narrowed := true }
def WindowMatchesUptoSaid : Prop := windowMatchesUptoRow.holds Try.pinned (OpenSpec.upto windowMatchesSpec)

/-- 'lighterlaw05.LzCuts', WHERE WHAT IT READS IS OF BULK AT MOST 1048576: true; the input reads as it did. -/
def lzCutsUptoRow : OpenClaim := { program := "ytecmldekdgjpnaa", sum := "d07d06c7726cdabcd2487efa74cc4eb1f4fac9d702c9071811cdec69e6bc0305", func := "lighter/lighterlaw05.LzCuts", spec := "lzCuts", unfollowed := true, recurses := true, apart := false, narrowed := true }
def LzCutsUptoSaid : Prop := lzCutsUptoRow.holds Try.pinned (OpenSpec.upto lzCutsSpec)

end Rows
end Go.Proofs.Ytecmldekdgjpnaa
