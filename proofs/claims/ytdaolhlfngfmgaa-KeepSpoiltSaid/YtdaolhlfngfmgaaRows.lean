/-
  No cell of these rows narrows 'for every input' (looked for: loops, veiled, ifaces, maps, wideKeys, modest, calm, conditions, laid).
  DERIVED. THE GIVEN ROWS OF THIS SEAT. 3 by the template 'for every input the law returns true; each argument reads behind the call as it read before'; 0 by the template 'total and deterministic' (their statements: YtdaolhlfngfmgaaTotals.lean).
  GIVEN WITH THE SEED: the statements are not yours to turn. If you find one false, say at which input.
  Laid BY PROGRAM, IN A SANDBOX (cutbox-rows.mjs): the forced cells as the released guide's own fill.sh prints them over the translation 976ca0d9fea6888c… (all of the seat's roots in one cut). By AI agents, Wed Nov 11 2026. No macro, syntax, notation, axiom, sorry.
-/
import Derived.Test.YtdaolhlfngfmgaaChecked
import GoSem.Claim
import GoSem.ClaimJoined
import GoSem.ClaimMapViews
import Derived.JoinedTies
import Derived.KernelRfl
namespace Go.Proofs.Ytdaolhlfngfmgaa
/- THE CELL 'sum', in the pinned program and in every row, IS THE sha256 OF THE DUMP (.gsa) THAT YtdaolhlfngfmgaaProg.lean LOADS. Nothing in Lean hashes anything: it is a label: what it is worth is what the hold of that sum in a sandbox is worth. -/
noncomputable def Try.pinned : Pinned := { name := "ytdaolhlfngfmgaa", sum := "976ca0d9fea6888c28e243b4066563791df215d0b3a83fbf2ab461e1037e8f64", checked := Try.checked }
namespace Rows
def none {H : Type} : Left H := { results := [], args := [] }

/-- 'lighterlaw20.KeepSpoilt': WHATEVER THE INPUT: true; the input reads as it did. -/
def keepSpoiltSpec : ChangeSpec := { name := "keepSpoilt", fn := fun _ => fun
  | [d1, d2] => { results := [.lit (.bool true)], args := [d1, d2] }
  | _ => none }
def keepSpoiltRow : OpenClaim := { program := "ytdaolhlfngfmgaa", sum := "976ca0d9fea6888c28e243b4066563791df215d0b3a83fbf2ab461e1037e8f64", func := "lighter/lighterlaw20.KeepSpoilt", spec := "keepSpoilt", inPlace := ["internal/abi.NoEscape", "internal/bytealg.MakeNoZero"], unfollowed := true, recurses := true, apart := false }
def KeepSpoiltSaid : Prop := keepSpoiltRow.holds Try.pinned (OpenSpec.ofChange keepSpoiltSpec)

/-- ITS FALSE NEIGHBOUR: 'it returns false'. Refute it at one input. -/
def keepSpoiltWrong : ChangeSpec := { name := "keepSpoilt", fn := fun _ => fun
  | [d1, d2] => { results := [.lit (.bool false)], args := [d1, d2] }
  | _ => none }
def KeepSpoiltWrongFalsely : Prop := keepSpoiltRow.holds Try.pinned (OpenSpec.ofChange keepSpoiltWrong)

/-- 'lighterlaw20.KeepAgain': WHATEVER THE INPUT: true; the input reads as it did. -/
def keepAgainSpec : ChangeSpec := { name := "keepAgain", fn := fun _ => fun
  | [d1, d2, d3] => { results := [.lit (.bool true)], args := [d1, d2, d3] }
  | _ => none }
def keepAgainRow : OpenClaim := { program := "ytdaolhlfngfmgaa", sum := "976ca0d9fea6888c28e243b4066563791df215d0b3a83fbf2ab461e1037e8f64", func := "lighter/lighterlaw20.KeepAgain", spec := "keepAgain", inPlace := ["internal/abi.NoEscape", "internal/bytealg.MakeNoZero"], unfollowed := true, recurses := true, apart := false }
def KeepAgainSaid : Prop := keepAgainRow.holds Try.pinned (OpenSpec.ofChange keepAgainSpec)

/-- ITS FALSE NEIGHBOUR: 'it returns false'. Refute it at one input. -/
def keepAgainWrong : ChangeSpec := { name := "keepAgain", fn := fun _ => fun
  | [d1, d2, d3] => { results := [.lit (.bool false)], args := [d1, d2, d3] }
  | _ => none }
def KeepAgainWrongFalsely : Prop := keepAgainRow.holds Try.pinned (OpenSpec.ofChange keepAgainWrong)

/-- 'lighterlaw20.KeepRefuses': WHATEVER THE INPUT: true; the input reads as it did. -/
def keepRefusesSpec : ChangeSpec := { name := "keepRefuses", fn := fun _ => fun
  | [d] => { results := [.lit (.bool true)], args := [d] }
  | _ => none }
def keepRefusesRow : OpenClaim := { program := "ytdaolhlfngfmgaa", sum := "976ca0d9fea6888c28e243b4066563791df215d0b3a83fbf2ab461e1037e8f64", func := "lighter/lighterlaw20.KeepRefuses", spec := "keepRefuses", inPlace := ["internal/abi.NoEscape", "internal/bytealg.MakeNoZero"], unfollowed := true, recurses := true, apart := false }
def KeepRefusesSaid : Prop := keepRefusesRow.holds Try.pinned (OpenSpec.ofChange keepRefusesSpec)

/-- ITS FALSE NEIGHBOUR: 'it returns false'. Refute it at one input. -/
def keepRefusesWrong : ChangeSpec := { name := "keepRefuses", fn := fun _ => fun
  | [d] => { results := [.lit (.bool false)], args := [d] }
  | _ => none }
def KeepRefusesWrongFalsely : Prop := keepRefusesRow.holds Try.pinned (OpenSpec.ofChange keepRefusesWrong)

/- THE SECOND FORM. 'bulk': how many values and letters a reading holds, each counted each time it is reached (what is shared counts as often as it is met; a slice's spare places count too). A statement '..UptoSaid' is the law's where the arguments, and the package variables that the reading takes, are together of bulk at most 1048576: NARROWER than '..Said'. Prove '..Said' where nothing that the law and all that it calls make is longer than what came in: it says more and counts as full. Else prove '..UptoSaid'. A law counts once. -/
mutual
def uptoBulk {H : Type} : DataW H → Nat
  | .lit (.string bytes) => bytes.length + 1
  | .lit _ => 1
  | .nil => 1
  | .ptr d => uptoBulk d + 1
  | .slice elems spare => uptoBulkAll elems + uptoBulkAll spare + 1
  | .agg parts => uptoBulkAll parts + 1
  | .iface _ d => uptoBulk d + 1
  | .map entries => uptoBulkEntries entries + 1
  | .held _ => 1
def uptoBulkAll {H : Type} : List (DataW H) → Nat
  | [] => 0
  | d :: r => uptoBulk d + uptoBulkAll r
def uptoBulkEntries {H : Type} : List (Lit × DataW H) → Nat
  | [] => 0
  | x :: r => uptoBulkEntry x + uptoBulkEntries r
def uptoBulkEntry {H : Type} : Lit × DataW H → Nat
  | (.string bytes, d) => bytes.length + uptoBulk d + 1
  | (_, d) => uptoBulk d + 1
 end
def uptoSmall : (H : Type) → List (DataW H) → Bool := fun _ ds => decide (uptoBulkAll ds ≤ 1048576)
def OpenSpec.upto (s : _root_.Go.ChangeSpec) : _root_.Go.OpenSpec := { _root_.Go.OpenSpec.ofChange s with cond := some uptoSmall }

/-- 'lighterlaw20.KeepSpoilt', WHERE WHAT IT READS IS OF BULK AT MOST 1048576: true; the input reads as it did. -/
def keepSpoiltUptoRow : OpenClaim := { program := "ytdaolhlfngfmgaa", sum := "976ca0d9fea6888c28e243b4066563791df215d0b3a83fbf2ab461e1037e8f64", func := "lighter/lighterlaw20.KeepSpoilt", spec := "keepSpoilt", inPlace := ["internal/abi.NoEscape", "internal/bytealg.MakeNoZero"], unfollowed := true, recurses := true, apart := false, narrowed := true }
def KeepSpoiltUptoSaid : Prop := keepSpoiltUptoRow.holds Try.pinned (OpenSpec.upto keepSpoiltSpec)

/-- 'lighterlaw20.KeepAgain', WHERE WHAT IT READS IS OF BULK AT MOST 1048576: true; the input reads as it did. -/
def keepAgainUptoRow : OpenClaim := { program := "ytdaolhlfngfmgaa", sum := "976ca0d9fea6888c28e243b4066563791df215d0b3a83fbf2ab461e1037e8f64", func := "lighter/lighterlaw20.KeepAgain", spec := "keepAgain", inPlace := ["internal/abi.NoEscape", "internal/bytealg.MakeNoZero"], unfollowed := true, recurses := true, apart := false, narrowed := true }
def KeepAgainUptoSaid : Prop := keepAgainUptoRow.holds Try.pinned (OpenSpec.upto keepAgainSpec)

/-- 'lighterlaw20.KeepRefuses', WHERE WHAT IT READS IS OF BULK AT MOST 1048576: true; the input reads as it did. -/
def keepRefusesUptoRow : OpenClaim := { program := "ytdaolhlfngfmgaa", sum := "976ca0d9fea6888c28e243b4066563791df215d0b3a83fbf2ab461e1037e8f64", func := "lighter/lighterlaw20.KeepRefuses", spec := "keepRefuses", inPlace := ["internal/abi.NoEscape", "internal/bytealg.MakeNoZero"], unfollowed := true, recurses := true, apart := false, narrowed := true }
def KeepRefusesUptoSaid : Prop := keepRefusesUptoRow.holds Try.pinned (OpenSpec.upto keepRefusesSpec)

end Rows
end Go.Proofs.Ytdaolhlfngfmgaa
