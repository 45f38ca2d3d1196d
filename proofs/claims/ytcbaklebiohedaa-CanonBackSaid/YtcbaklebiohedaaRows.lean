/-
  No cell of these rows narrows 'for every input' (looked for: loops, veiled, ifaces, maps, wideKeys, modest, calm, conditions, laid).
  DERIVED. THE GIVEN ROWS OF THIS SEAT. 5 by the template 'for every input the law returns true; each argument reads behind the call as it read before'; 0 by the template 'total and deterministic' (their statements: YtcbaklebiohedaaTotals.lean).
  GIVEN WITH THE SEED: the statements are not yours to turn. If you find one false, say at which input.
  Laid BY PROGRAM, IN A SANDBOX (cutbox-rows.mjs): the forced cells as the released guide's own fill.sh prints them over the translation ade9566bab46ee94… (all of the seat's roots in one cut). By AI agents, Wed Nov 11 2026. No macro, syntax, notation, axiom, sorry.
-/
import Derived.Test.YtcbaklebiohedaaChecked
import GoSem.Claim
import GoSem.ClaimJoined
import GoSem.ClaimMapViews
import Derived.JoinedTies
import Derived.KernelRfl
namespace Go.Proofs.Ytcbaklebiohedaa
/- THE CELL 'sum', in the pinned program and in every row, IS THE sha256 OF THE DUMP (.gsa) THAT YtcbaklebiohedaaProg.lean LOADS. Nothing in Lean hashes anything: it is a label: what it is worth is what the hold of that sum in a sandbox is worth. -/
noncomputable def Try.pinned : Pinned := { name := "ytcbaklebiohedaa", sum := "ade9566bab46ee947c0f5aa5a16be5d075525a0aa020681fdff6390a82d9a83f", checked := Try.checked }
namespace Rows
def none {H : Type} : Left H := { results := [], args := [] }

/-- 'lighterlaw03.CanonApart': WHATEVER THE INPUT: true; the input reads as it did. -/
def canonApartSpec : ChangeSpec := { name := "canonApart", fn := fun _ => fun
  | [d] => { results := [.lit (.bool true)], args := [d] }
  | _ => none }
def canonApartRow : OpenClaim := { program := "ytcbaklebiohedaa", sum := "ade9566bab46ee947c0f5aa5a16be5d075525a0aa020681fdff6390a82d9a83f", func := "lighter/lighterlaw03.CanonApart", spec := "canonApart", unfollowed := true, recurses := true, apart := false }
def CanonApartSaid : Prop := canonApartRow.holds Try.pinned (OpenSpec.ofChange canonApartSpec)

/-- ITS FALSE NEIGHBOUR: 'it returns false'. Refute it at one input. -/
def canonApartWrong : ChangeSpec := { name := "canonApart", fn := fun _ => fun
  | [d] => { results := [.lit (.bool false)], args := [d] }
  | _ => none }
def CanonApartWrongFalsely : Prop := canonApartRow.holds Try.pinned (OpenSpec.ofChange canonApartWrong)

/-- 'lighterlaw03.CanonWords': WHATEVER THE INPUT: true; the input reads as it did. -/
def canonWordsSpec : ChangeSpec := { name := "canonWords", fn := fun _ => fun
  | [d1, d2, d3] => { results := [.lit (.bool true)], args := [d1, d2, d3] }
  | _ => none }
def canonWordsRow : OpenClaim := { program := "ytcbaklebiohedaa", sum := "ade9566bab46ee947c0f5aa5a16be5d075525a0aa020681fdff6390a82d9a83f", func := "lighter/lighterlaw03.CanonWords", spec := "canonWords", unfollowed := true, recurses := true, apart := false }
def CanonWordsSaid : Prop := canonWordsRow.holds Try.pinned (OpenSpec.ofChange canonWordsSpec)

/-- ITS FALSE NEIGHBOUR: 'it returns false'. Refute it at one input. -/
def canonWordsWrong : ChangeSpec := { name := "canonWords", fn := fun _ => fun
  | [d1, d2, d3] => { results := [.lit (.bool false)], args := [d1, d2, d3] }
  | _ => none }
def CanonWordsWrongFalsely : Prop := canonWordsRow.holds Try.pinned (OpenSpec.ofChange canonWordsWrong)

/-- 'lighterlaw03.CanonShares': WHATEVER THE INPUT: true; the input reads as it did. -/
def canonSharesSpec : ChangeSpec := { name := "canonShares", fn := fun _ => fun
  | [d] => { results := [.lit (.bool true)], args := [d] }
  | _ => none }
def canonSharesRow : OpenClaim := { program := "ytcbaklebiohedaa", sum := "ade9566bab46ee947c0f5aa5a16be5d075525a0aa020681fdff6390a82d9a83f", func := "lighter/lighterlaw03.CanonShares", spec := "canonShares", unfollowed := true, recurses := true, apart := false }
def CanonSharesSaid : Prop := canonSharesRow.holds Try.pinned (OpenSpec.ofChange canonSharesSpec)

/-- ITS FALSE NEIGHBOUR: 'it returns false'. Refute it at one input. -/
def canonSharesWrong : ChangeSpec := { name := "canonShares", fn := fun _ => fun
  | [d] => { results := [.lit (.bool false)], args := [d] }
  | _ => none }
def CanonSharesWrongFalsely : Prop := canonSharesRow.holds Try.pinned (OpenSpec.ofChange canonSharesWrong)

/-- 'lighterlaw03.CanonReads': WHATEVER THE INPUT: true; the input reads as it did. -/
def canonReadsSpec : ChangeSpec := { name := "canonReads", fn := fun _ => fun
  | [d1, d2, d3] => { results := [.lit (.bool true)], args := [d1, d2, d3] }
  | _ => none }
def canonReadsRow : OpenClaim := { program := "ytcbaklebiohedaa", sum := "ade9566bab46ee947c0f5aa5a16be5d075525a0aa020681fdff6390a82d9a83f", func := "lighter/lighterlaw03.CanonReads", spec := "canonReads", unfollowed := true, recurses := true, apart := false }
def CanonReadsSaid : Prop := canonReadsRow.holds Try.pinned (OpenSpec.ofChange canonReadsSpec)

/-- ITS FALSE NEIGHBOUR: 'it returns false'. Refute it at one input. -/
def canonReadsWrong : ChangeSpec := { name := "canonReads", fn := fun _ => fun
  | [d1, d2, d3] => { results := [.lit (.bool false)], args := [d1, d2, d3] }
  | _ => none }
def CanonReadsWrongFalsely : Prop := canonReadsRow.holds Try.pinned (OpenSpec.ofChange canonReadsWrong)

/-- 'lighterlaw03.CanonBack': WHATEVER THE INPUT: true; the input reads as it did. -/
def canonBackSpec : ChangeSpec := { name := "canonBack", fn := fun _ => fun
  | [d1, d2] => { results := [.lit (.bool true)], args := [d1, d2] }
  | _ => none }
def canonBackRow : OpenClaim := { program := "ytcbaklebiohedaa", sum := "ade9566bab46ee947c0f5aa5a16be5d075525a0aa020681fdff6390a82d9a83f", func := "lighter/lighterlaw03.CanonBack", spec := "canonBack", unfollowed := true, recurses := true, apart := false }
def CanonBackSaid : Prop := canonBackRow.holds Try.pinned (OpenSpec.ofChange canonBackSpec)

/-- ITS FALSE NEIGHBOUR: 'it returns false'. Refute it at one input. -/
def canonBackWrong : ChangeSpec := { name := "canonBack", fn := fun _ => fun
  | [d1, d2] => { results := [.lit (.bool false)], args := [d1, d2] }
  | _ => none }
def CanonBackWrongFalsely : Prop := canonBackRow.holds Try.pinned (OpenSpec.ofChange canonBackWrong)

/- THE SECOND FORM. 'bulk': how many values and letters a reading holds, each counted each time it is reached (what is shared counts as often as it is met; a slice's spare places count too). A statement '..UptoSaid' is the law's where the arguments, and the package variables that the reading takes, are together of bulk at most 1048576: NARROWER than '..Said'. Prove '..Said' where nothing that the law and all that it calls make is longer than what came in: it says more and counts as full. Else prove '..UptoSaid'. A law counts once. -/
mutual
def uptoBulk {H : Type} : DataW H → Nat
  | .lit (.string bytes) => bytes.length + 1
  | .lit _ => 1
  | .nil => 1
  | .ptr d => uptoBulk d + 1
  | .slice elems spare => uptoBulkAll elems + uptoBulkAll spare + 1
  | .agg parts => uptoBulkAll parts + 1
  | .iface _ d => uptoBulk d + 1
  | .map entries => uptoBulkEntries entries + 1
  | .held _ => 1
def uptoBulkAll {H : Type} : List (DataW H) → Nat
  | [] => 0
  | d :: r => uptoBulk d + uptoBulkAll r
def uptoBulkEntries {H : Type} : List (Lit × DataW H) → Nat
  | [] => 0
  | x :: r => uptoBulkEntry x + uptoBulkEntries r
def uptoBulkEntry {H : Type} : Lit × DataW H → Nat
  | (.string bytes, d) => bytes.length + uptoBulk d + 1
  | (_, d) => uptoBulk d + 1
 end
def uptoSmall : (H : Type) → List (DataW H) → Bool := fun _ ds => decide (uptoBulkAll ds ≤ 1048576)
def OpenSpec.upto (s : _root_.Go.ChangeSpec) : _root_.Go.OpenSpec := { _root_.Go.OpenSpec.ofChange s with cond := some uptoSmall }

/-- 'lighterlaw03.CanonApart', WHERE WHAT IT READS IS OF BULK AT MOST 1048576: true; the input reads as it did. -/
def canonApartUptoRow : OpenClaim := { program := "ytcbaklebiohedaa", sum := "ade9566bab46ee947c0f5aa5a16be5d075525a0aa020681fdff6390a82d9a83f", func := "lighter/lighterlaw03.CanonApart", spec := "canonApart", unfollowed := true, recurses := true, apart := false, narrowed := true }
def CanonApartUptoSaid : Prop := canonApartUptoRow.holds Try.pinned (OpenSpec.upto canonApartSpec)

/-- 'lighterlaw03.CanonWords', WHERE WHAT IT READS IS OF BULK AT MOST 1048576: true; the input reads as it did. -/
def canonWordsUptoRow : OpenClaim := { program := "ytcbaklebiohedaa", sum := "ade9566bab46ee947c0f5aa5a16be5d075525a0aa020681fdff6390a82d9a83f", func := "lighter/lighterlaw03.CanonWords", spec := "canonWords", unfollowed := true, recurses := true, apart := false, narrowed := true }
def CanonWordsUptoSaid : Prop := canonWordsUptoRow.holds Try.pinned (OpenSpec.upto canonWordsSpec)

/-- 'lighterlaw03.CanonShares', WHERE WHAT IT READS IS OF BULK AT MOST 1048576: true; the input reads as it did. -/
def canonSharesUptoRow : OpenClaim := { program := "ytcbaklebiohedaa", sum := "ade9566bab46ee947c0f5aa5a16be5d075525a0aa020681fdff6390a82d9a83f", func := "lighter/lighterlaw03.CanonShares", spec := "canonShares", unfollowed := true, recurses := true, apart := false, narrowed := true }
def CanonSharesUptoSaid : Prop := canonSharesUptoRow.holds Try.pinned (OpenSpec.upto canonSharesSpec)

/-- 'lighterlaw03.CanonReads', WHERE WHAT IT READS IS OF BULK AT MOST 1048576: true; the input reads as it did. -/
def canonReadsUptoRow : OpenClaim := { program := "ytcbaklebiohedaa", sum := "ade9566bab46ee947c0f5aa5a16be5d075525a0aa020681fdff6390a82d9a83f", func := "lighter/lighterlaw03.CanonReads", spec := "canonReads", unfollowed := true, recurses := true, apart := false, narrowed := true }
def CanonReadsUptoSaid : Prop := canonReadsUptoRow.holds Try.pinned (OpenSpec.upto canonReadsSpec)

/-- 'lighterlaw03.CanonBack', WHERE WHAT IT READS IS OF BULK AT MOST 1048576: true; the input reads as it did. -/
def canonBackUptoRow : OpenClaim := { program := "ytcbaklebiohedaa", sum := "ade9566bab46ee947c0f5aa5a16be5d075525a0aa020681fdff6390a82d9a83f", func := "lighter/lighterlaw03.CanonBack", spec := "canonBack", unfollowed := true, recurses := true, apart := false, narrowed := true }
def CanonBackUptoSaid : Prop := canonBackUptoRow.holds Try.pinned (OpenSpec.upto canonBackSpec)

end Rows
end Go.Proofs.Ytcbaklebiohedaa
