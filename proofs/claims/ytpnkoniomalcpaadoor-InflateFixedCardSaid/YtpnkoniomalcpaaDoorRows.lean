/-
  NARROWER THAN 'FOR EVERY INPUT', by the rows' own cells (each row's printed sentence says how): InflateNone: laid · InflateStored: laid · InflateFixed: laid · InflateCopies: laid.
  DERIVED. THE GIVEN ROWS OF THIS SEAT. 4 by the template 'for every input the law returns true; each argument reads behind the call as it read before'; 0 by the template 'total and deterministic' (their statements: YtpnkoniomalcpaaDoorTotals.lean).
  GIVEN WITH THE SEED: the statements are not yours to turn. If you find one false, say at which input.
  Laid BY PROGRAM, IN A SANDBOX (cutbox-rows.mjs): the forced cells as the released guide's own fill.sh prints them over the translation 10bf38fa9fc62c70… (all of the seat's roots in one cut). By AI agents, Wed Nov 11 2026. No macro, syntax, notation, axiom, sorry.
-/
import Derived.Test.YtpnkoniomalcpaaDoorChecked
import GoSem.Claim
import GoSem.ClaimJoined
import GoSem.ClaimMapViews
import Derived.JoinedTies
import Derived.KernelRfl
namespace Go.Proofs.YtpnkoniomalcpaaDoor
/- THE CELL 'sum', in the pinned program and in every row, IS THE sha256 OF THE DUMP (.gsa) THAT YtpnkoniomalcpaaDoorProg.lean LOADS. Nothing in Lean hashes anything: it is a label: what it is worth is what the hold of that sum in a sandbox is worth. -/
noncomputable def Tryd.pinned : Pinned := { name := "ytpnkoniomalcpaadoor", sum := "10bf38fa9fc62c703b0c5bd95f801bb904717fb2cfed9ec93bbdee6072f41141", checked := Tryd.checked }
namespace Rows
def none {H : Type} : Left H := { results := [], args := [] }

/- WHAT THE LISTED PACKAGE-LEVEL VARIABLES READ AS WHEN THE CALL BEGINS. Each datum BY PROGRAM (the guide's laid-datum.mjs) off the statement by which the dump's own 'gosem.cut.vars' lays the variable. In a bare row this is a premise. The card (YtpnkoniomalcpaaDoorCards.lean) ties it to the program's text. -/
def laid_lighter_inflate_order {H : Type} : DataW H := .agg [.lit (.int .i64 16), .lit (.int .i64 17), .lit (.int .i64 18), .lit (.int .i64 0), .lit (.int .i64 8), .lit (.int .i64 7), .lit (.int .i64 9), .lit (.int .i64 6), .lit (.int .i64 10), .lit (.int .i64 5), .lit (.int .i64 11), .lit (.int .i64 4), .lit (.int .i64 12), .lit (.int .i64 3), .lit (.int .i64 13), .lit (.int .i64 2), .lit (.int .i64 14), .lit (.int .i64 1), .lit (.int .i64 15)]

/-- 'lighterlaw07.InflateNone': WHATEVER THE INPUT: true; the input reads as it did. -/
def inflateNoneSpec : ChangeSpec := { name := "inflateNone", fn := fun _ => fun
  | [d] => { results := [.lit (.bool true)], args := [d] }
  | _ => none }
def inflateNoneRow : OpenClaim := { program := "ytpnkoniomalcpaadoor", sum := "10bf38fa9fc62c703b0c5bd95f801bb904717fb2cfed9ec93bbdee6072f41141", func := "lighter/lighterlaw07.InflateNone", spec := "inflateNone", inPlace := ["internal/abi.NoEscape"], unfollowed := true, recurses := true, named := ["lighter/inflate.order"], apart := false, laid := [("lighter/inflate.order", laid_lighter_inflate_order)] }
def InflateNoneSaid : Prop := inflateNoneRow.holds Tryd.pinned (OpenSpec.ofChange inflateNoneSpec)

/-- ITS FALSE NEIGHBOUR: 'it returns false'. Refute it at one input. -/
def inflateNoneWrong : ChangeSpec := { name := "inflateNone", fn := fun _ => fun
  | [d] => { results := [.lit (.bool false)], args := [d] }
  | _ => none }
def InflateNoneWrongFalsely : Prop := inflateNoneRow.holds Tryd.pinned (OpenSpec.ofChange inflateNoneWrong)

/-- 'lighterlaw07.InflateStored': WHATEVER THE INPUT: true; the input reads as it did. -/
def inflateStoredSpec : ChangeSpec := { name := "inflateStored", fn := fun _ => fun
  | [d1, d2, d3] => { results := [.lit (.bool true)], args := [d1, d2, d3] }
  | _ => none }
def inflateStoredRow : OpenClaim := { program := "ytpnkoniomalcpaadoor", sum := "10bf38fa9fc62c703b0c5bd95f801bb904717fb2cfed9ec93bbdee6072f41141", func := "lighter/lighterlaw07.InflateStored", spec := "inflateStored", inPlace := ["internal/abi.NoEscape"], unfollowed := true, recurses := true, named := ["lighter/inflate.order"], apart := false, laid := [("lighter/inflate.order", laid_lighter_inflate_order)] }
def InflateStoredSaid : Prop := inflateStoredRow.holds Tryd.pinned (OpenSpec.ofChange inflateStoredSpec)

/-- ITS FALSE NEIGHBOUR: 'it returns false'. Refute it at one input. -/
def inflateStoredWrong : ChangeSpec := { name := "inflateStored", fn := fun _ => fun
  | [d1, d2, d3] => { results := [.lit (.bool false)], args := [d1, d2, d3] }
  | _ => none }
def InflateStoredWrongFalsely : Prop := inflateStoredRow.holds Tryd.pinned (OpenSpec.ofChange inflateStoredWrong)

/-- 'lighterlaw07.InflateFixed': WHATEVER THE INPUT: true; the input reads as it did. -/
def inflateFixedSpec : ChangeSpec := { name := "inflateFixed", fn := fun _ => fun
  | [d1, d2] => { results := [.lit (.bool true)], args := [d1, d2] }
  | _ => none }
def inflateFixedRow : OpenClaim := { program := "ytpnkoniomalcpaadoor", sum := "10bf38fa9fc62c703b0c5bd95f801bb904717fb2cfed9ec93bbdee6072f41141", func := "lighter/lighterlaw07.InflateFixed", spec := "inflateFixed", inPlace := ["internal/abi.NoEscape"], unfollowed := true, recurses := true, named := ["lighter/inflate.order"], apart := false, laid := [("lighter/inflate.order", laid_lighter_inflate_order)] }
def InflateFixedSaid : Prop := inflateFixedRow.holds Tryd.pinned (OpenSpec.ofChange inflateFixedSpec)

/-- ITS FALSE NEIGHBOUR: 'it returns false'. Refute it at one input. -/
def inflateFixedWrong : ChangeSpec := { name := "inflateFixed", fn := fun _ => fun
  | [d1, d2] => { results := [.lit (.bool false)], args := [d1, d2] }
  | _ => none }
def InflateFixedWrongFalsely : Prop := inflateFixedRow.holds Tryd.pinned (OpenSpec.ofChange inflateFixedWrong)

/-- 'lighterlaw07.InflateCopies': WHATEVER THE INPUT: true; the input reads as it did. -/
def inflateCopiesSpec : ChangeSpec := { name := "inflateCopies", fn := fun _ => fun
  | [d1, d2, d3] => { results := [.lit (.bool true)], args := [d1, d2, d3] }
  | _ => none }
def inflateCopiesRow : OpenClaim := { program := "ytpnkoniomalcpaadoor", sum := "10bf38fa9fc62c703b0c5bd95f801bb904717fb2cfed9ec93bbdee6072f41141", func := "lighter/lighterlaw07.InflateCopies", spec := "inflateCopies", inPlace := ["internal/abi.NoEscape"], unfollowed := true, recurses := true, named := ["lighter/inflate.order"], apart := false, laid := [("lighter/inflate.order", laid_lighter_inflate_order)] }
def InflateCopiesSaid : Prop := inflateCopiesRow.holds Tryd.pinned (OpenSpec.ofChange inflateCopiesSpec)

/-- ITS FALSE NEIGHBOUR: 'it returns false'. Refute it at one input. -/
def inflateCopiesWrong : ChangeSpec := { name := "inflateCopies", fn := fun _ => fun
  | [d1, d2, d3] => { results := [.lit (.bool false)], args := [d1, d2, d3] }
  | _ => none }
def InflateCopiesWrongFalsely : Prop := inflateCopiesRow.holds Tryd.pinned (OpenSpec.ofChange inflateCopiesWrong)

/- THE SECOND FORM. 'bulk': how many values and letters a reading holds, each counted each time it is reached (what is shared counts as often as it is met; a slice's spare places count too). A statement '..UptoSaid' is the law's where the arguments, and the package variables that the reading takes, are together of bulk at most 1048576: NARROWER than '..Said'. Prove '..Said' where nothing that the law and all that it calls make is longer than what came in: it says more and counts as full. Else prove '..UptoSaid'. A law counts once. -/
mutual
def uptoBulk {H : Type} : DataW H → Nat
  | .lit (.string bytes) => bytes.length + 1
  | .lit _ => 1
  | .nil => 1
  | .ptr d => uptoBulk d + 1
  | .slice elems spare => uptoBulkAll elems + uptoBulkAll spare + 1
  | .agg parts => uptoBulkAll parts + 1
  | .iface _ d => uptoBulk d + 1
  | .map entries => uptoBulkEntries entries + 1
  | .held _ => 1
def uptoBulkAll {H : Type} : List (DataW H) → Nat
  | [] => 0
  | d :: r => uptoBulk d + uptoBulkAll r
def uptoBulkEntries {H : Type} : List (Lit × DataW H) → Nat
  | [] => 0
  | x :: r => uptoBulkEntry x + uptoBulkEntries r
def uptoBulkEntry {H : Type} : Lit × DataW H → Nat
  | (.string bytes, d) => bytes.length + uptoBulk d + 1
  | (_, d) => uptoBulk d + 1
 end
def uptoSmall : (H : Type) → List (DataW H) → Bool := fun _ ds => decide (uptoBulkAll ds ≤ 1048576)
def OpenSpec.upto (s : _root_.Go.ChangeSpec) : _root_.Go.OpenSpec := { _root_.Go.OpenSpec.ofChange s with cond := some uptoSmall }

/-- 'lighterlaw07.InflateNone', WHERE WHAT IT READS IS OF BULK AT MOST 1048576: true; the input reads as it did. -/
def inflateNoneUptoRow : OpenClaim := { program := "ytpnkoniomalcpaadoor", sum := "10bf38fa9fc62c703b0c5bd95f801bb904717fb2cfed9ec93bbdee6072f41141", func := "lighter/lighterlaw07.InflateNone", spec := "inflateNone", inPlace := ["internal/abi.NoEscape"], unfollowed := true, recurses := true, named := ["lighter/inflate.order"], apart := false, laid := [("lighter/inflate.order", laid_lighter_inflate_order)], narrowed := true }
def InflateNoneUptoSaid : Prop := inflateNoneUptoRow.holds Tryd.pinned (OpenSpec.upto inflateNoneSpec)

/-- 'lighterlaw07.InflateStored', WHERE WHAT IT READS IS OF BULK AT MOST 1048576: true; the input reads as it did. -/
def inflateStoredUptoRow : OpenClaim := { program := "ytpnkoniomalcpaadoor", sum := "10bf38fa9fc62c703b0c5bd95f801bb904717fb2cfed9ec93bbdee6072f41141", func := "lighter/lighterlaw07.InflateStored", spec := "inflateStored", inPlace := ["internal/abi.NoEscape"], unfollowed := true, recurses := true, named := ["lighter/inflate.order"], apart := false, laid := [("lighter/inflate.order", laid_lighter_inflate_order)], narrowed := true }
def InflateStoredUptoSaid : Prop := inflateStoredUptoRow.holds Tryd.pinned (OpenSpec.upto inflateStoredSpec)

/-- 'lighterlaw07.InflateFixed', WHERE WHAT IT READS IS OF BULK AT MOST 1048576: true; the input reads as it did. -/
def inflateFixedUptoRow : OpenClaim := { program := "ytpnkoniomalcpaadoor", sum := "10bf38fa9fc62c703b0c5bd95f801bb904717fb2cfed9ec93bbdee6072f41141", func := "lighter/lighterlaw07.InflateFixed", spec := "inflateFixed", inPlace := ["internal/abi.NoEscape"], unfollowed := true, recurses := true, named := ["lighter/inflate.order"], apart := false, laid := [("lighter/inflate.order", laid_lighter_inflate_order)], narrowed := true }
def InflateFixedUptoSaid : Prop := inflateFixedUptoRow.holds Tryd.pinned (OpenSpec.upto inflateFixedSpec)

/-- 'lighterlaw07.InflateCopies', WHERE WHAT IT READS IS OF BULK AT MOST 1048576: true; the input reads as it did. -/
def inflateCopiesUptoRow : OpenClaim := { program := "ytpnkoniomalcpaadoor", sum := "10bf38fa9fc62c703b0c5bd95f801bb904717fb2cfed9ec93bbdee6072f41141", func := "lighter/lighterlaw07.InflateCopies", spec := "inflateCopies", inPlace := ["internal/abi.NoEscape"], unfollowed := true, recurses := true, named := ["lighter/inflate.order"], apart := false, laid := [("lighter/inflate.order", laid_lighter_inflate_order)], narrowed := true }
def InflateCopiesUptoSaid : Prop := inflateCopiesUptoRow.holds Tryd.pinned (OpenSpec.upto inflateCopiesSpec)

end Rows
end Go.Proofs.YtpnkoniomalcpaaDoor
