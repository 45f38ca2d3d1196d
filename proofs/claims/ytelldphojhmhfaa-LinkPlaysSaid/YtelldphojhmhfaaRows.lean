/-
  No cell of these rows narrows 'for every input' (looked for: loops, veiled, ifaces, maps, wideKeys, modest, calm, conditions, laid).
  DERIVED. THE GIVEN ROWS OF THIS SEAT. 4 by the template 'for every input the law returns true; each argument reads behind the call as it read before'; 0 by the template 'total and deterministic' (their statements: YtelldphojhmhfaaTotals.lean).
  GIVEN WITH THE SEED: the statements are not yours to turn. If you find one false, say at which input.
  Laid BY PROGRAM, IN A SANDBOX (cutbox-rows.mjs): the forced cells as the released guide's own fill.sh prints them over the translation 8859a7a047c41cee… (all of the seat's roots in one cut). By AI agents, Wed Nov 11 2026. No macro, syntax, notation, axiom, sorry.
-/
import Derived.Test.YtelldphojhmhfaaChecked
import GoSem.Claim
import GoSem.ClaimJoined
import GoSem.ClaimMapViews
import Derived.JoinedTies
import Derived.KernelRfl
namespace Go.Proofs.Ytelldphojhmhfaa
/- THE CELL 'sum', in the pinned program and in every row, IS THE sha256 OF THE DUMP (.gsa) THAT YtelldphojhmhfaaProg.lean LOADS. Nothing in Lean hashes anything: it is a label: what it is worth is what the hold of that sum in a sandbox is worth. -/
noncomputable def Try.pinned : Pinned := { name := "ytelldphojhmhfaa", sum := "8859a7a047c41cee67d7ea0a71ed9dc21f0ddd7a2577d7f641dd808b4b3069ab", checked := Try.checked }
namespace Rows
def none {H : Type} : Left H := { results := [], args := [] }

/-- 'lighterlaw26.LinkTurns': WHATEVER THE INPUT: true; the input reads as it did. -/
def linkTurnsSpec : ChangeSpec := { name := "linkTurns", fn := fun _ => fun
  | [d1, d2] => { results := [.lit (.bool true)], args := [d1, d2] }
  | _ => none }
def linkTurnsRow : OpenClaim := { program := "ytelldphojhmhfaa", sum := "8859a7a047c41cee67d7ea0a71ed9dc21f0ddd7a2577d7f641dd808b4b3069ab", func := "lighter/lighterlaw26.LinkTurns", spec := "linkTurns", apart := false }
def LinkTurnsSaid : Prop := linkTurnsRow.holds Try.pinned (OpenSpec.ofChange linkTurnsSpec)

/-- ITS FALSE NEIGHBOUR: 'it returns false'. Refute it at one input. -/
def linkTurnsWrong : ChangeSpec := { name := "linkTurns", fn := fun _ => fun
  | [d1, d2] => { results := [.lit (.bool false)], args := [d1, d2] }
  | _ => none }
def LinkTurnsWrongFalsely : Prop := linkTurnsRow.holds Try.pinned (OpenSpec.ofChange linkTurnsWrong)

/-- 'lighterlaw26.LinkSpoils': WHATEVER THE INPUT: true; the input reads as it did. -/
def linkSpoilsSpec : ChangeSpec := { name := "linkSpoils", fn := fun _ => fun
  | [d1, d2, d3] => { results := [.lit (.bool true)], args := [d1, d2, d3] }
  | _ => none }
def linkSpoilsRow : OpenClaim := { program := "ytelldphojhmhfaa", sum := "8859a7a047c41cee67d7ea0a71ed9dc21f0ddd7a2577d7f641dd808b4b3069ab", func := "lighter/lighterlaw26.LinkSpoils", spec := "linkSpoils", unfollowed := true, recurses := true, apart := false }
def LinkSpoilsSaid : Prop := linkSpoilsRow.holds Try.pinned (OpenSpec.ofChange linkSpoilsSpec)

/-- ITS FALSE NEIGHBOUR: 'it returns false'. Refute it at one input. -/
def linkSpoilsWrong : ChangeSpec := { name := "linkSpoils", fn := fun _ => fun
  | [d1, d2, d3] => { results := [.lit (.bool false)], args := [d1, d2, d3] }
  | _ => none }
def LinkSpoilsWrongFalsely : Prop := linkSpoilsRow.holds Try.pinned (OpenSpec.ofChange linkSpoilsWrong)

/-- 'lighterlaw26.LinkPlays': WHATEVER THE INPUT: true; the input reads as it did. -/
def linkPlaysSpec : ChangeSpec := { name := "linkPlays", fn := fun _ => fun
  | [d1, d2] => { results := [.lit (.bool true)], args := [d1, d2] }
  | _ => none }
def linkPlaysRow : OpenClaim := { program := "ytelldphojhmhfaa", sum := "8859a7a047c41cee67d7ea0a71ed9dc21f0ddd7a2577d7f641dd808b4b3069ab", func := "lighter/lighterlaw26.LinkPlays", spec := "linkPlays", unfollowed := true, recurses := true, apart := false }
def LinkPlaysSaid : Prop := linkPlaysRow.holds Try.pinned (OpenSpec.ofChange linkPlaysSpec)

/-- ITS FALSE NEIGHBOUR: 'it returns false'. Refute it at one input. -/
def linkPlaysWrong : ChangeSpec := { name := "linkPlays", fn := fun _ => fun
  | [d1, d2] => { results := [.lit (.bool false)], args := [d1, d2] }
  | _ => none }
def LinkPlaysWrongFalsely : Prop := linkPlaysRow.holds Try.pinned (OpenSpec.ofChange linkPlaysWrong)

/-- 'lighterlaw26.LinkNone': WHATEVER THE INPUT: true; the input reads as it did. -/
def linkNoneSpec : ChangeSpec := { name := "linkNone", fn := fun _ => fun
  | [d1, d2] => { results := [.lit (.bool true)], args := [d1, d2] }
  | _ => none }
def linkNoneRow : OpenClaim := { program := "ytelldphojhmhfaa", sum := "8859a7a047c41cee67d7ea0a71ed9dc21f0ddd7a2577d7f641dd808b4b3069ab", func := "lighter/lighterlaw26.LinkNone", spec := "linkNone", unfollowed := true, recurses := true, apart := false }
def LinkNoneSaid : Prop := linkNoneRow.holds Try.pinned (OpenSpec.ofChange linkNoneSpec)

/-- ITS FALSE NEIGHBOUR: 'it returns false'. Refute it at one input. -/
def linkNoneWrong : ChangeSpec := { name := "linkNone", fn := fun _ => fun
  | [d1, d2] => { results := [.lit (.bool false)], args := [d1, d2] }
  | _ => none }
def LinkNoneWrongFalsely : Prop := linkNoneRow.holds Try.pinned (OpenSpec.ofChange linkNoneWrong)

/- THE SECOND FORM. 'bulk': how many values and letters a reading holds, each counted each time it is reached (what is shared counts as often as it is met; a slice's spare places count too). A statement '..UptoSaid' is the law's where the arguments, and the package variables that the reading takes, are together of bulk at most 1048576: NARROWER than '..Said'. Prove '..Said' where nothing that the law and all that it calls make is longer than what came in: it says more and counts as full. Else prove '..UptoSaid'. A law counts once. -/
mutual
def uptoBulk {H : Type} : DataW H → Nat
  | .lit (.string bytes) => bytes.length + 1
  | .lit _ => 1
  | .nil => 1
  | .ptr d => uptoBulk d + 1
  | .slice elems spare => uptoBulkAll elems + uptoBulkAll spare + 1
  | .agg parts => uptoBulkAll parts + 1
  | .iface _ d => uptoBulk d + 1
  | .map entries => uptoBulkEntries entries + 1
  | .held _ => 1
def uptoBulkAll {H : Type} : List (DataW H) → Nat
  | [] => 0
  | d :: r => uptoBulk d + uptoBulkAll r
def uptoBulkEntries {H : Type} : List (Lit × DataW H) → Nat
  | [] => 0
  | x :: r => uptoBulkEntry x + uptoBulkEntries r
def uptoBulkEntry {H : Type} : Lit × DataW H → Nat
  | (.string bytes, d) => bytes.length + uptoBulk d + 1
  | (_, d) => uptoBulk d + 1
 end
def uptoSmall : (H : Type) → List (DataW H) → Bool := fun _ ds => decide (uptoBulkAll ds ≤ 1048576)
def OpenSpec.upto (s : _root_.Go.ChangeSpec) : _root_.Go.OpenSpec := { _root_.Go.OpenSpec.ofChange s with cond := some uptoSmall }

/-- 'lighterlaw26.LinkTurns', WHERE WHAT IT READS IS OF BULK AT MOST 1048576: true; the input reads as it did. -/
def linkTurnsUptoRow : OpenClaim := { program := "ytelldphojhmhfaa", sum := "8859a7a047c41cee67d7ea0a71ed9dc21f0ddd7a2577d7f641dd808b4b3069ab", func := "lighter/lighterlaw26.LinkTurns", spec := "linkTurns", apart := false, narrowed := true }
def LinkTurnsUptoSaid : Prop := linkTurnsUptoRow.holds Try.pinned (OpenSpec.upto linkTurnsSpec)

/-- 'lighterlaw26.LinkSpoils', WHERE WHAT IT READS IS OF BULK AT MOST 1048576: true; the input reads as it did. -/
def linkSpoilsUptoRow : OpenClaim := { program := "ytelldphojhmhfaa", sum := "8859a7a047c41cee67d7ea0a71ed9dc21f0ddd7a2577d7f641dd808b4b3069ab", func := "lighter/lighterlaw26.LinkSpoils", spec := "linkSpoils", unfollowed := true, recurses := true, apart := false, narrowed := true }
def LinkSpoilsUptoSaid : Prop := linkSpoilsUptoRow.holds Try.pinned (OpenSpec.upto linkSpoilsSpec)

/-- 'lighterlaw26.LinkPlays', WHERE WHAT IT READS IS OF BULK AT MOST 1048576: true; the input reads as it did. -/
def linkPlaysUptoRow : OpenClaim := { program := "ytelldphojhmhfaa", sum := "8859a7a047c41cee67d7ea0a71ed9dc21f0ddd7a2577d7f641dd808b4b3069ab", func := "lighter/lighterlaw26.LinkPlays", spec := "linkPlays", unfollowed := true, recurses := true, apart := false, narrowed := true }
def LinkPlaysUptoSaid : Prop := linkPlaysUptoRow.holds Try.pinned (OpenSpec.upto linkPlaysSpec)

/-- 'lighterlaw26.LinkNone', WHERE WHAT IT READS IS OF BULK AT MOST 1048576: true; the input reads as it did. -/
def linkNoneUptoRow : OpenClaim := { program := "ytelldphojhmhfaa", sum := "8859a7a047c41cee67d7ea0a71ed9dc21f0ddd7a2577d7f641dd808b4b3069ab", func := "lighter/lighterlaw26.LinkNone", spec := "linkNone", unfollowed := true, recurses := true, apart := false, narrowed := true }
def LinkNoneUptoSaid : Prop := linkNoneUptoRow.holds Try.pinned (OpenSpec.upto linkNoneSpec)

end Rows
end Go.Proofs.Ytelldphojhmhfaa
