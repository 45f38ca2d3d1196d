/-
  No cell of these rows narrows 'for every input' (looked for: loops, veiled, ifaces, maps, wideKeys, modest, calm, conditions, laid).
  DERIVED. THE GIVEN ROWS OF THIS SEAT. 8 by the template 'for every input the law returns true; each argument reads behind the call as it read before'; 0 by the template 'total and deterministic' (their statements: YtmolkhfohpfhaaaTotals.lean).
  GIVEN WITH THE SEED: the statements are not yours to turn. If you find one false, say at which input.
  Laid BY PROGRAM, IN A SANDBOX (cutbox-rows.mjs): the forced cells as the released guide's own fill.sh prints them over the translation 3d13b52d20806342… (all of the seat's roots in one cut). By AI agents, Wed Nov 11 2026. No macro, syntax, notation, axiom, sorry.
-/
import Derived.Test.YtmolkhfohpfhaaaChecked
import GoSem.Claim
import GoSem.ClaimJoined
import GoSem.ClaimMapViews
import Derived.JoinedTies
import Derived.KernelRfl
namespace Go.Proofs.Ytmolkhfohpfhaaa
/- THE CELL 'sum', in the pinned program and in every row, IS THE sha256 OF THE DUMP (.gsa) THAT YtmolkhfohpfhaaaProg.lean LOADS. Nothing in Lean hashes anything: it is a label: what it is worth is what the hold of that sum in a sandbox is worth. -/
noncomputable def Try.pinned : Pinned := { name := "ytmolkhfohpfhaaa", sum := "3d13b52d208063422084c72e7fe97d9f9d95398fb5c78ed3d10f11616cfcad74", checked := Try.checked }
namespace Rows
def none {H : Type} : Left H := { results := [], args := [] }

/-- 'lighterlaw25.RecvPlays': WHATEVER THE INPUT: true; the input reads as it did. -/
def recvPlaysSpec : ChangeSpec := { name := "recvPlays", fn := fun _ => fun
  | [d1, d2, d3] => { results := [.lit (.bool true)], args := [d1, d2, d3] }
  | _ => none }
def recvPlaysRow : OpenClaim := { program := "ytmolkhfohpfhaaa", sum := "3d13b52d208063422084c72e7fe97d9f9d95398fb5c78ed3d10f11616cfcad74", func := "lighter/lighterlaw25.RecvPlays", spec := "recvPlays", apart := false }
def RecvPlaysSaid : Prop := recvPlaysRow.holds Try.pinned (OpenSpec.ofChange recvPlaysSpec)

/-- ITS FALSE NEIGHBOUR: 'it returns false'. Refute it at one input. -/
def recvPlaysWrong : ChangeSpec := { name := "recvPlays", fn := fun _ => fun
  | [d1, d2, d3] => { results := [.lit (.bool false)], args := [d1, d2, d3] }
  | _ => none }
def RecvPlaysWrongFalsely : Prop := recvPlaysRow.holds Try.pinned (OpenSpec.ofChange recvPlaysWrong)

/-- 'lighterlaw25.RecvRefuses': WHATEVER THE INPUT: true; the input reads as it did. -/
def recvRefusesSpec : ChangeSpec := { name := "recvRefuses", fn := fun _ => fun
  | [d1, d2] => { results := [.lit (.bool true)], args := [d1, d2] }
  | _ => none }
def recvRefusesRow : OpenClaim := { program := "ytmolkhfohpfhaaa", sum := "3d13b52d208063422084c72e7fe97d9f9d95398fb5c78ed3d10f11616cfcad74", func := "lighter/lighterlaw25.RecvRefuses", spec := "recvRefuses", apart := false }
def RecvRefusesSaid : Prop := recvRefusesRow.holds Try.pinned (OpenSpec.ofChange recvRefusesSpec)

/-- ITS FALSE NEIGHBOUR: 'it returns false'. Refute it at one input. -/
def recvRefusesWrong : ChangeSpec := { name := "recvRefuses", fn := fun _ => fun
  | [d1, d2] => { results := [.lit (.bool false)], args := [d1, d2] }
  | _ => none }
def RecvRefusesWrongFalsely : Prop := recvRefusesRow.holds Try.pinned (OpenSpec.ofChange recvRefusesWrong)

/-- 'lighterlaw25.RecvBack': WHATEVER THE INPUT: true; the input reads as it did. -/
def recvBackSpec : ChangeSpec := { name := "recvBack", fn := fun _ => fun
  | [d1, d2, d3] => { results := [.lit (.bool true)], args := [d1, d2, d3] }
  | _ => none }
def recvBackRow : OpenClaim := { program := "ytmolkhfohpfhaaa", sum := "3d13b52d208063422084c72e7fe97d9f9d95398fb5c78ed3d10f11616cfcad74", func := "lighter/lighterlaw25.RecvBack", spec := "recvBack", apart := false }
def RecvBackSaid : Prop := recvBackRow.holds Try.pinned (OpenSpec.ofChange recvBackSpec)

/-- ITS FALSE NEIGHBOUR: 'it returns false'. Refute it at one input. -/
def recvBackWrong : ChangeSpec := { name := "recvBack", fn := fun _ => fun
  | [d1, d2, d3] => { results := [.lit (.bool false)], args := [d1, d2, d3] }
  | _ => none }
def RecvBackWrongFalsely : Prop := recvBackRow.holds Try.pinned (OpenSpec.ofChange recvBackWrong)

/-- 'lighterlaw24.SendEnds': WHATEVER THE INPUT: true; the input reads as it did. -/
def sendEndsSpec : ChangeSpec := { name := "sendEnds", fn := fun _ => fun
  | [d1, d2, d3] => { results := [.lit (.bool true)], args := [d1, d2, d3] }
  | _ => none }
def sendEndsRow : OpenClaim := { program := "ytmolkhfohpfhaaa", sum := "3d13b52d208063422084c72e7fe97d9f9d95398fb5c78ed3d10f11616cfcad74", func := "lighter/lighterlaw24.SendEnds", spec := "sendEnds", apart := false }
def SendEndsSaid : Prop := sendEndsRow.holds Try.pinned (OpenSpec.ofChange sendEndsSpec)

/-- ITS FALSE NEIGHBOUR: 'it returns false'. Refute it at one input. -/
def sendEndsWrong : ChangeSpec := { name := "sendEnds", fn := fun _ => fun
  | [d1, d2, d3] => { results := [.lit (.bool false)], args := [d1, d2, d3] }
  | _ => none }
def SendEndsWrongFalsely : Prop := sendEndsRow.holds Try.pinned (OpenSpec.ofChange sendEndsWrong)

/-- 'lighterlaw24.SendTells': WHATEVER THE INPUT: true; the input reads as it did. -/
def sendTellsSpec : ChangeSpec := { name := "sendTells", fn := fun _ => fun
  | [d1, d2, d3] => { results := [.lit (.bool true)], args := [d1, d2, d3] }
  | _ => none }
def sendTellsRow : OpenClaim := { program := "ytmolkhfohpfhaaa", sum := "3d13b52d208063422084c72e7fe97d9f9d95398fb5c78ed3d10f11616cfcad74", func := "lighter/lighterlaw24.SendTells", spec := "sendTells", apart := false }
def SendTellsSaid : Prop := sendTellsRow.holds Try.pinned (OpenSpec.ofChange sendTellsSpec)

/-- ITS FALSE NEIGHBOUR: 'it returns false'. Refute it at one input. -/
def sendTellsWrong : ChangeSpec := { name := "sendTells", fn := fun _ => fun
  | [d1, d2, d3] => { results := [.lit (.bool false)], args := [d1, d2, d3] }
  | _ => none }
def SendTellsWrongFalsely : Prop := sendTellsRow.holds Try.pinned (OpenSpec.ofChange sendTellsWrong)

/-- 'lighterlaw24.SendPlays': WHATEVER THE INPUT: true; the input reads as it did. -/
def sendPlaysSpec : ChangeSpec := { name := "sendPlays", fn := fun _ => fun
  | [d1, d2, d3] => { results := [.lit (.bool true)], args := [d1, d2, d3] }
  | _ => none }
def sendPlaysRow : OpenClaim := { program := "ytmolkhfohpfhaaa", sum := "3d13b52d208063422084c72e7fe97d9f9d95398fb5c78ed3d10f11616cfcad74", func := "lighter/lighterlaw24.SendPlays", spec := "sendPlays", apart := false }
def SendPlaysSaid : Prop := sendPlaysRow.holds Try.pinned (OpenSpec.ofChange sendPlaysSpec)

/-- ITS FALSE NEIGHBOUR: 'it returns false'. Refute it at one input. -/
def sendPlaysWrong : ChangeSpec := { name := "sendPlays", fn := fun _ => fun
  | [d1, d2, d3] => { results := [.lit (.bool false)], args := [d1, d2, d3] }
  | _ => none }
def SendPlaysWrongFalsely : Prop := sendPlaysRow.holds Try.pinned (OpenSpec.ofChange sendPlaysWrong)

/-- 'lighterlaw24.SendRefuses': WHATEVER THE INPUT: true; the input reads as it did. -/
def sendRefusesSpec : ChangeSpec := { name := "sendRefuses", fn := fun _ => fun
  | [d1, d2, d3] => { results := [.lit (.bool true)], args := [d1, d2, d3] }
  | _ => none }
def sendRefusesRow : OpenClaim := { program := "ytmolkhfohpfhaaa", sum := "3d13b52d208063422084c72e7fe97d9f9d95398fb5c78ed3d10f11616cfcad74", func := "lighter/lighterlaw24.SendRefuses", spec := "sendRefuses", apart := false }
def SendRefusesSaid : Prop := sendRefusesRow.holds Try.pinned (OpenSpec.ofChange sendRefusesSpec)

/-- ITS FALSE NEIGHBOUR: 'it returns false'. Refute it at one input. -/
def sendRefusesWrong : ChangeSpec := { name := "sendRefuses", fn := fun _ => fun
  | [d1, d2, d3] => { results := [.lit (.bool false)], args := [d1, d2, d3] }
  | _ => none }
def SendRefusesWrongFalsely : Prop := sendRefusesRow.holds Try.pinned (OpenSpec.ofChange sendRefusesWrong)

/-- 'lighterlaw25.RecvAll': WHATEVER THE INPUT: true; the input reads as it did. -/
def recvAllSpec : ChangeSpec := { name := "recvAll", fn := fun _ => fun
  | [d1, d2, d3] => { results := [.lit (.bool true)], args := [d1, d2, d3] }
  | _ => none }
def recvAllRow : OpenClaim := { program := "ytmolkhfohpfhaaa", sum := "3d13b52d208063422084c72e7fe97d9f9d95398fb5c78ed3d10f11616cfcad74", func := "lighter/lighterlaw25.RecvAll", spec := "recvAll", apart := false }
def RecvAllSaid : Prop := recvAllRow.holds Try.pinned (OpenSpec.ofChange recvAllSpec)

/-- ITS FALSE NEIGHBOUR: 'it returns false'. Refute it at one input. -/
def recvAllWrong : ChangeSpec := { name := "recvAll", fn := fun _ => fun
  | [d1, d2, d3] => { results := [.lit (.bool false)], args := [d1, d2, d3] }
  | _ => none }
def RecvAllWrongFalsely : Prop := recvAllRow.holds Try.pinned (OpenSpec.ofChange recvAllWrong)

/- THE SECOND FORM. 'bulk': how many values and letters a reading holds, each counted each time it is reached (what is shared counts as often as it is met; a slice's spare places count too). A statement '..UptoSaid' is the law's where the arguments, and the package variables that the reading takes, are together of bulk at most 1048576: NARROWER than '..Said'. Prove '..Said' where nothing that the law and all that it calls make is longer than what came in: it says more and counts as full. Else prove '..UptoSaid'. A law counts once. -/
mutual
def uptoBulk {H : Type} : DataW H → Nat
  | .lit (.string bytes) => bytes.length + 1
  | .lit _ => 1
  | .nil => 1
  | .ptr d => uptoBulk d + 1
  | .slice elems spare => uptoBulkAll elems + uptoBulkAll spare + 1
  | .agg parts => uptoBulkAll parts + 1
  | .iface _ d => uptoBulk d + 1
  | .map entries => uptoBulkEntries entries + 1
  | .held _ => 1
def uptoBulkAll {H : Type} : List (DataW H) → Nat
  | [] => 0
  | d :: r => uptoBulk d + uptoBulkAll r
def uptoBulkEntries {H : Type} : List (Lit × DataW H) → Nat
  | [] => 0
  | x :: r => uptoBulkEntry x + uptoBulkEntries r
def uptoBulkEntry {H : Type} : Lit × DataW H → Nat
  | (.string bytes, d) => bytes.length + uptoBulk d + 1
  | (_, d) => uptoBulk d + 1
 end
def uptoSmall : (H : Type) → List (DataW H) → Bool := fun _ ds => decide (uptoBulkAll ds ≤ 1048576)
def OpenSpec.upto (s : _root_.Go.ChangeSpec) : _root_.Go.OpenSpec := { _root_.Go.OpenSpec.ofChange s with cond := some uptoSmall }

/-- 'lighterlaw25.RecvPlays', WHERE WHAT IT READS IS OF BULK AT MOST 1048576: true; the input reads as it did. -/
def recvPlaysUptoRow : OpenClaim := { program := "ytmolkhfohpfhaaa", sum := "3d13b52d208063422084c72e7fe97d9f9d95398fb5c78ed3d10f11616cfcad74", func := "lighter/lighterlaw25.RecvPlays", spec := "recvPlays", apart := false, narrowed := true }
def RecvPlaysUptoSaid : Prop := recvPlaysUptoRow.holds Try.pinned (OpenSpec.upto recvPlaysSpec)

/-- 'lighterlaw25.RecvRefuses', WHERE WHAT IT READS IS OF BULK AT MOST 1048576: true; the input reads as it did. -/
def recvRefusesUptoRow : OpenClaim := { program := "ytmolkhfohpfhaaa", sum := "3d13b52d208063422084c72e7fe97d9f9d95398fb5c78ed3d10f11616cfcad74", func := "lighter/lighterlaw25.RecvRefuses", spec := "recvRefuses", apart := false, narrowed := true }
def RecvRefusesUptoSaid : Prop := recvRefusesUptoRow.holds Try.pinned (OpenSpec.upto recvRefusesSpec)

/-- 'lighterlaw25.RecvBack', WHERE WHAT IT READS IS OF BULK AT MOST 1048576: true; the input reads as it did. -/
def recvBackUptoRow : OpenClaim := { program := "ytmolkhfohpfhaaa", sum := "3d13b52d208063422084c72e7fe97d9f9d95398fb5c78ed3d10f11616cfcad74", func := "lighter/lighterlaw25.RecvBack", spec := "recvBack", apart := false, narrowed := true }
def RecvBackUptoSaid : Prop := recvBackUptoRow.holds Try.pinned (OpenSpec.upto recvBackSpec)

/-- 'lighterlaw24.SendEnds', WHERE WHAT IT READS IS OF BULK AT MOST 1048576: true; the input reads as it did. -/
def sendEndsUptoRow : OpenClaim := { program := "ytmolkhfohpfhaaa", sum := "3d13b52d208063422084c72e7fe97d9f9d95398fb5c78ed3d10f11616cfcad74", func := "lighter/lighterlaw24.SendEnds", spec := "sendEnds", apart := false, narrowed := true }
def SendEndsUptoSaid : Prop := sendEndsUptoRow.holds Try.pinned (OpenSpec.upto sendEndsSpec)

/-- 'lighterlaw24.SendTells', WHERE WHAT IT READS IS OF BULK AT MOST 1048576: true; the input reads as it did. -/
def sendTellsUptoRow : OpenClaim := { program := "ytmolkhfohpfhaaa", sum := "3d13b52d208063422084c72e7fe97d9f9d95398fb5c78ed3d10f11616cfcad74", func := "lighter/lighterlaw24.SendTells", spec := "sendTells", apart := false, narrowed := true }
def SendTellsUptoSaid : Prop := sendTellsUptoRow.holds Try.pinned (OpenSpec.upto sendTellsSpec)

/-- 'lighterlaw24.SendPlays', WHERE WHAT IT READS IS OF BULK AT MOST 1048576: true; the input reads as it did. -/
def sendPlaysUptoRow : OpenClaim := { program := "ytmolkhfohpfhaaa", sum := "3d13b52d208063422084c72e7fe97d9f9d95398fb5c78ed3d10f11616cfcad74", func := "lighter/lighterlaw24.SendPlays", spec := "sendPlays", apart := false, narrowed := true }
def SendPlaysUptoSaid : Prop := sendPlaysUptoRow.holds Try.pinned (OpenSpec.upto sendPlaysSpec)

/-- 'lighterlaw24.SendRefuses', WHERE WHAT IT READS IS OF BULK AT MOST 1048576: true; the input reads as it did. -/
def sendRefusesUptoRow : OpenClaim := { program := "ytmolkhfohpfhaaa", sum := "3d13b52d208063422084c72e7fe97d9f9d95398fb5c78ed3d10f11616cfcad74", func := "lighter/lighterlaw24.SendRefuses", spec := "sendRefuses", apart := false, narrowed := true }
def SendRefusesUptoSaid : Prop := sendRefusesUptoRow.holds Try.pinned (OpenSpec.upto sendRefusesSpec)

/-- 'lighterlaw25.RecvAll', WHERE WHAT IT READS IS OF BULK AT MOST 1048576: true; the input reads as it did. -/
def recvAllUptoRow : OpenClaim := { program := "ytmolkhfohpfhaaa", sum := "3d13b52d208063422084c72e7fe97d9f9d95398fb5c78ed3d10f11616cfcad74", func := "lighter/lighterlaw25.RecvAll", spec := "recvAll", apart := false, narrowed := true }
def RecvAllUptoSaid : Prop := recvAllUptoRow.holds Try.pinned (OpenSpec.upto recvAllSpec)

end Rows
end Go.Proofs.Ytmolkhfohpfhaaa
