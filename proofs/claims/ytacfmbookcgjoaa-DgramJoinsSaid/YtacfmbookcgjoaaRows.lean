/-
  No cell of these rows narrows 'for every input' (looked for: loops, veiled, ifaces, maps, wideKeys, modest, calm, conditions, laid).
  DERIVED. THE GIVEN ROWS OF THIS SEAT. 5 by the template 'for every input the law returns true; each argument reads behind the call as it read before'; 0 by the template 'total and deterministic' (their statements: YtacfmbookcgjoaaTotals.lean).
  GIVEN WITH THE SEED: the statements are not yours to turn. If you find one false, say at which input.
  Laid BY PROGRAM, IN A SANDBOX (cutbox-rows.mjs): the forced cells as the released guide's own fill.sh prints them over the translation 8db73718b8c48c48… (all of the seat's roots in one cut). By AI agents, Wed Nov 11 2026. No macro, syntax, notation, axiom, sorry.
-/
import Derived.Test.YtacfmbookcgjoaaChecked
import GoSem.Claim
import GoSem.ClaimJoined
import GoSem.ClaimMapViews
import Derived.JoinedTies
import Derived.KernelRfl
namespace Go.Proofs.Ytacfmbookcgjoaa
/- THE CELL 'sum', in the pinned program and in every row, IS THE sha256 OF THE DUMP (.gsa) THAT YtacfmbookcgjoaaProg.lean LOADS. Nothing in Lean hashes anything: it is a label: what it is worth is what the hold of that sum in a sandbox is worth. -/
noncomputable def Try.pinned : Pinned := { name := "ytacfmbookcgjoaa", sum := "8db73718b8c48c48b3fb100ebb325e7100e49ed909e1ea9faf5334772381c514", checked := Try.checked }
namespace Rows
def none {H : Type} : Left H := { results := [], args := [] }

/-- 'lighterlaw22.DgramCodes': WHATEVER THE INPUT: true; the input reads as it did. -/
def dgramCodesSpec : ChangeSpec := { name := "dgramCodes", fn := fun _ => fun
  | [d] => { results := [.lit (.bool true)], args := [d] }
  | _ => none }
def dgramCodesRow : OpenClaim := { program := "ytacfmbookcgjoaa", sum := "8db73718b8c48c48b3fb100ebb325e7100e49ed909e1ea9faf5334772381c514", func := "lighter/lighterlaw22.DgramCodes", spec := "dgramCodes", apart := false }
def DgramCodesSaid : Prop := dgramCodesRow.holds Try.pinned (OpenSpec.ofChange dgramCodesSpec)

/-- ITS FALSE NEIGHBOUR: 'it returns false'. Refute it at one input. -/
def dgramCodesWrong : ChangeSpec := { name := "dgramCodes", fn := fun _ => fun
  | [d] => { results := [.lit (.bool false)], args := [d] }
  | _ => none }
def DgramCodesWrongFalsely : Prop := dgramCodesRow.holds Try.pinned (OpenSpec.ofChange dgramCodesWrong)

/-- 'lighterlaw22.DgramAny': WHATEVER THE INPUT: true; the input reads as it did. -/
def dgramAnySpec : ChangeSpec := { name := "dgramAny", fn := fun _ => fun
  | [d1, d2, d3] => { results := [.lit (.bool true)], args := [d1, d2, d3] }
  | _ => none }
def dgramAnyRow : OpenClaim := { program := "ytacfmbookcgjoaa", sum := "8db73718b8c48c48b3fb100ebb325e7100e49ed909e1ea9faf5334772381c514", func := "lighter/lighterlaw22.DgramAny", spec := "dgramAny", apart := false }
def DgramAnySaid : Prop := dgramAnyRow.holds Try.pinned (OpenSpec.ofChange dgramAnySpec)

/-- ITS FALSE NEIGHBOUR: 'it returns false'. Refute it at one input. -/
def dgramAnyWrong : ChangeSpec := { name := "dgramAny", fn := fun _ => fun
  | [d1, d2, d3] => { results := [.lit (.bool false)], args := [d1, d2, d3] }
  | _ => none }
def DgramAnyWrongFalsely : Prop := dgramAnyRow.holds Try.pinned (OpenSpec.ofChange dgramAnyWrong)

/-- 'lighterlaw22.DgramBursts': WHATEVER THE INPUT: true; the input reads as it did. -/
def dgramBurstsSpec : ChangeSpec := { name := "dgramBursts", fn := fun _ => fun
  | [d1, d2, d3] => { results := [.lit (.bool true)], args := [d1, d2, d3] }
  | _ => none }
def dgramBurstsRow : OpenClaim := { program := "ytacfmbookcgjoaa", sum := "8db73718b8c48c48b3fb100ebb325e7100e49ed909e1ea9faf5334772381c514", func := "lighter/lighterlaw22.DgramBursts", spec := "dgramBursts", apart := false }
def DgramBurstsSaid : Prop := dgramBurstsRow.holds Try.pinned (OpenSpec.ofChange dgramBurstsSpec)

/-- ITS FALSE NEIGHBOUR: 'it returns false'. Refute it at one input. -/
def dgramBurstsWrong : ChangeSpec := { name := "dgramBursts", fn := fun _ => fun
  | [d1, d2, d3] => { results := [.lit (.bool false)], args := [d1, d2, d3] }
  | _ => none }
def DgramBurstsWrongFalsely : Prop := dgramBurstsRow.holds Try.pinned (OpenSpec.ofChange dgramBurstsWrong)

/-- 'lighterlaw22.DgramShort': WHATEVER THE INPUT: true; the input reads as it did. -/
def dgramShortSpec : ChangeSpec := { name := "dgramShort", fn := fun _ => fun
  | [d] => { results := [.lit (.bool true)], args := [d] }
  | _ => none }
def dgramShortRow : OpenClaim := { program := "ytacfmbookcgjoaa", sum := "8db73718b8c48c48b3fb100ebb325e7100e49ed909e1ea9faf5334772381c514", func := "lighter/lighterlaw22.DgramShort", spec := "dgramShort", apart := false }
def DgramShortSaid : Prop := dgramShortRow.holds Try.pinned (OpenSpec.ofChange dgramShortSpec)

/-- ITS FALSE NEIGHBOUR: 'it returns false'. Refute it at one input. -/
def dgramShortWrong : ChangeSpec := { name := "dgramShort", fn := fun _ => fun
  | [d] => { results := [.lit (.bool false)], args := [d] }
  | _ => none }
def DgramShortWrongFalsely : Prop := dgramShortRow.holds Try.pinned (OpenSpec.ofChange dgramShortWrong)

/-- 'lighterlaw22.DgramJoins': WHATEVER THE INPUT: true; the input reads as it did. -/
def dgramJoinsSpec : ChangeSpec := { name := "dgramJoins", fn := fun _ => fun
  | [d1, d2] => { results := [.lit (.bool true)], args := [d1, d2] }
  | _ => none }
def dgramJoinsRow : OpenClaim := { program := "ytacfmbookcgjoaa", sum := "8db73718b8c48c48b3fb100ebb325e7100e49ed909e1ea9faf5334772381c514", func := "lighter/lighterlaw22.DgramJoins", spec := "dgramJoins", apart := false }
def DgramJoinsSaid : Prop := dgramJoinsRow.holds Try.pinned (OpenSpec.ofChange dgramJoinsSpec)

/-- ITS FALSE NEIGHBOUR: 'it returns false'. Refute it at one input. -/
def dgramJoinsWrong : ChangeSpec := { name := "dgramJoins", fn := fun _ => fun
  | [d1, d2] => { results := [.lit (.bool false)], args := [d1, d2] }
  | _ => none }
def DgramJoinsWrongFalsely : Prop := dgramJoinsRow.holds Try.pinned (OpenSpec.ofChange dgramJoinsWrong)

/- THE SECOND FORM. 'bulk': how many values and letters a reading holds, each counted each time it is reached (what is shared counts as often as it is met; a slice's spare places count too). A statement '..UptoSaid' is the law's where the arguments, and the package variables that the reading takes, are together of bulk at most 1048576: NARROWER than '..Said'. Prove '..Said' where nothing that the law and all that it calls make is longer than what came in: it says more and counts as full. Else prove '..UptoSaid'. A law counts once. -/
mutual
def uptoBulk {H : Type} : DataW H → Nat
  | .lit (.string bytes) => bytes.length + 1
  | .lit _ => 1
  | .nil => 1
  | .ptr d => uptoBulk d + 1
  | .slice elems spare => uptoBulkAll elems + uptoBulkAll spare + 1
  | .agg parts => uptoBulkAll parts + 1
  | .iface _ d => uptoBulk d + 1
  | .map entries => uptoBulkEntries entries + 1
  | .held _ => 1
def uptoBulkAll {H : Type} : List (DataW H) → Nat
  | [] => 0
  | d :: r => uptoBulk d + uptoBulkAll r
def uptoBulkEntries {H : Type} : List (Lit × DataW H) → Nat
  | [] => 0
  | x :: r => uptoBulkEntry x + uptoBulkEntries r
def uptoBulkEntry {H : Type} : Lit × DataW H → Nat
  | (.string bytes, d) => bytes.length + uptoBulk d + 1
  | (_, d) => uptoBulk d + 1
 end
def uptoSmall : (H : Type) → List (DataW H) → Bool := fun _ ds => decide (uptoBulkAll ds ≤ 1048576)
def OpenSpec.upto (s : _root_.Go.ChangeSpec) : _root_.Go.OpenSpec := { _root_.Go.OpenSpec.ofChange s with cond := some uptoSmall }

/-- 'lighterlaw22.DgramCodes', WHERE WHAT IT READS IS OF BULK AT MOST 1048576: true; the input reads as it did. -/
def dgramCodesUptoRow : OpenClaim := { program := "ytacfmbookcgjoaa", sum := "8db73718b8c48c48b3fb100ebb325e7100e49ed909e1ea9faf5334772381c514", func := "lighter/lighterlaw22.DgramCodes", spec := "dgramCodes", apart := false, narrowed := true }
def DgramCodesUptoSaid : Prop := dgramCodesUptoRow.holds Try.pinned (OpenSpec.upto dgramCodesSpec)

/-- 'lighterlaw22.DgramAny', WHERE WHAT IT READS IS OF BULK AT MOST 1048576: true; the input reads as it did. -/
def dgramAnyUptoRow : OpenClaim := { program := "ytacfmbookcgjoaa", sum := "8db73718b8c48c48b3fb100ebb325e7100e49ed909e1ea9faf5334772381c514", func := "lighter/lighterlaw22.DgramAny", spec := "dgramAny", apart := false, narrowed := true }
def DgramAnyUptoSaid : Prop := dgramAnyUptoRow.holds Try.pinned (OpenSpec.upto dgramAnySpec)

/-- 'lighterlaw22.DgramBursts', WHERE WHAT IT READS IS OF BULK AT MOST 1048576: true; the input reads as it did. -/
def dgramBurstsUptoRow : OpenClaim := { program := "ytacfmbookcgjoaa", sum := "8db73718b8c48c48b3fb100ebb325e7100e49ed909e1ea9faf5334772381c514", func := "lighter/lighterlaw22.DgramBursts", spec := "dgramBursts", apart := false, narrowed := true }
def DgramBurstsUptoSaid : Prop := dgramBurstsUptoRow.holds Try.pinned (OpenSpec.upto dgramBurstsSpec)

/-- 'lighterlaw22.DgramShort', WHERE WHAT IT READS IS OF BULK AT MOST 1048576: true; the input reads as it did. -/
def dgramShortUptoRow : OpenClaim := { program := "ytacfmbookcgjoaa", sum := "8db73718b8c48c48b3fb100ebb325e7100e49ed909e1ea9faf5334772381c514", func := "lighter/lighterlaw22.DgramShort", spec := "dgramShort", apart := false, narrowed := true }
def DgramShortUptoSaid : Prop := dgramShortUptoRow.holds Try.pinned (OpenSpec.upto dgramShortSpec)

/-- 'lighterlaw22.DgramJoins', WHERE WHAT IT READS IS OF BULK AT MOST 1048576: true; the input reads as it did. -/
def dgramJoinsUptoRow : OpenClaim := { program := "ytacfmbookcgjoaa", sum := "8db73718b8c48c48b3fb100ebb325e7100e49ed909e1ea9faf5334772381c514", func := "lighter/lighterlaw22.DgramJoins", spec := "dgramJoins", apart := false, narrowed := true }
def DgramJoinsUptoSaid : Prop := dgramJoinsUptoRow.holds Try.pinned (OpenSpec.upto dgramJoinsSpec)

end Rows
end Go.Proofs.Ytacfmbookcgjoaa
