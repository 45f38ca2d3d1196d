/-
  NARROWER THAN 'FOR EVERY INPUT', by the rows' own cells (each row's printed sentence says how): MatchLongest: laid · MatchRuns: laid · DosTexts: laid · MatchTokens: laid · MatchFar: laid · MatchFewest: laid.
  DERIVED. THE GIVEN ROWS OF THIS SEAT. 6 by the template 'for every input the law returns true; each argument reads behind the call as it read before'; 0 by the template 'total and deterministic' (their statements: YtfmbgnchedhneaaDoorTotals.lean).
  GIVEN WITH THE SEED: the statements are not yours to turn. If you find one false, say at which input.
  Laid BY PROGRAM, IN A SANDBOX (cutbox-rows.mjs): the forced cells as the released guide's own fill.sh prints them over the translation a342a6bccaab2ff0… (all of the seat's roots in one cut). By AI agents, Wed Nov 11 2026. No macro, syntax, notation, axiom, sorry.
-/
import Derived.Test.YtfmbgnchedhneaaDoorChecked
import GoSem.Claim
import GoSem.ClaimJoined
import GoSem.ClaimMapViews
import Derived.JoinedTies
import Derived.KernelRfl
namespace Go.Proofs.YtfmbgnchedhneaaDoor
/- THE CELL 'sum', in the pinned program and in every row, IS THE sha256 OF THE DUMP (.gsa) THAT YtfmbgnchedhneaaDoorProg.lean LOADS. Nothing in Lean hashes anything: it is a label: what it is worth is what the hold of that sum in a sandbox is worth. -/
noncomputable def Tryd.pinned : Pinned := { name := "ytfmbgnchedhneaadoor", sum := "a342a6bccaab2ff0e5da1119ce00b44401899ebbe9c788923052f98f59093f99", checked := Tryd.checked }
namespace Rows
def none {H : Type} : Left H := { results := [], args := [] }

/- WHAT THE LISTED PACKAGE-LEVEL VARIABLES READ AS WHEN THE CALL BEGINS. Each datum BY PROGRAM (the guide's laid-datum.mjs) off the statement by which the dump's own 'gosem.cut.vars' lays the variable. In a bare row this is a premise. The card (YtfmbgnchedhneaaDoorCards.lean) ties it to the program's text. -/
def laid_lighter_match_depths {H : Type} : DataW H := .agg [.lit (.int .i64 0), .lit (.int .i64 4), .lit (.int .i64 8), .lit (.int .i64 16), .lit (.int .i64 16), .lit (.int .i64 32), .lit (.int .i64 64), .lit (.int .i64 128), .lit (.int .i64 512), .lit (.int .i64 1073741824)]
def laid_lighter_dos_form {H : Type} : DataW H := .agg [.agg [.lit (.int .i64 0), .lit (.int .i64 4)], .agg [.lit (.int .i64 5), .lit (.int .i64 2)], .agg [.lit (.int .i64 8), .lit (.int .i64 2)], .agg [.lit (.int .i64 11), .lit (.int .i64 2)], .agg [.lit (.int .i64 14), .lit (.int .i64 2)], .agg [.lit (.int .i64 17), .lit (.int .i64 2)]]

/-- 'lighterlaw08.MatchLongest': WHATEVER THE INPUT: true; the input reads as it did. -/
def matchLongestSpec : ChangeSpec := { name := "matchLongest", fn := fun _ => fun
  | [d1, d2] => { results := [.lit (.bool true)], args := [d1, d2] }
  | _ => none }
def matchLongestRow : OpenClaim := { program := "ytfmbgnchedhneaadoor", sum := "a342a6bccaab2ff0e5da1119ce00b44401899ebbe9c788923052f98f59093f99", func := "lighter/lighterlaw08.MatchLongest", spec := "matchLongest", named := ["lighter/match.depths"], apart := false, laid := [("lighter/match.depths", laid_lighter_match_depths)] }
def MatchLongestSaid : Prop := matchLongestRow.holds Tryd.pinned (OpenSpec.ofChange matchLongestSpec)

/-- ITS FALSE NEIGHBOUR: 'it returns false'. Refute it at one input. -/
def matchLongestWrong : ChangeSpec := { name := "matchLongest", fn := fun _ => fun
  | [d1, d2] => { results := [.lit (.bool false)], args := [d1, d2] }
  | _ => none }
def MatchLongestWrongFalsely : Prop := matchLongestRow.holds Tryd.pinned (OpenSpec.ofChange matchLongestWrong)

/-- 'lighterlaw08.MatchRuns': WHATEVER THE INPUT: true; the input reads as it did. -/
def matchRunsSpec : ChangeSpec := { name := "matchRuns", fn := fun _ => fun
  | [d1, d2, d3] => { results := [.lit (.bool true)], args := [d1, d2, d3] }
  | _ => none }
def matchRunsRow : OpenClaim := { program := "ytfmbgnchedhneaadoor", sum := "a342a6bccaab2ff0e5da1119ce00b44401899ebbe9c788923052f98f59093f99", func := "lighter/lighterlaw08.MatchRuns", spec := "matchRuns", named := ["lighter/match.depths"], apart := false, laid := [("lighter/match.depths", laid_lighter_match_depths)] }
def MatchRunsSaid : Prop := matchRunsRow.holds Tryd.pinned (OpenSpec.ofChange matchRunsSpec)

/-- ITS FALSE NEIGHBOUR: 'it returns false'. Refute it at one input. -/
def matchRunsWrong : ChangeSpec := { name := "matchRuns", fn := fun _ => fun
  | [d1, d2, d3] => { results := [.lit (.bool false)], args := [d1, d2, d3] }
  | _ => none }
def MatchRunsWrongFalsely : Prop := matchRunsRow.holds Tryd.pinned (OpenSpec.ofChange matchRunsWrong)

/-- 'lighterlaw11.DosTexts': WHATEVER THE INPUT: true; the input reads as it did. -/
def dosTextsSpec : ChangeSpec := { name := "dosTexts", fn := fun _ => fun
  | [d1, d2] => { results := [.lit (.bool true)], args := [d1, d2] }
  | _ => none }
def dosTextsRow : OpenClaim := { program := "ytfmbgnchedhneaadoor", sum := "a342a6bccaab2ff0e5da1119ce00b44401899ebbe9c788923052f98f59093f99", func := "lighter/lighterlaw11.DosTexts", spec := "dosTexts", named := ["lighter/dos.form"], apart := false, laid := [("lighter/dos.form", laid_lighter_dos_form)] }
def DosTextsSaid : Prop := dosTextsRow.holds Tryd.pinned (OpenSpec.ofChange dosTextsSpec)

/-- ITS FALSE NEIGHBOUR: 'it returns false'. Refute it at one input. -/
def dosTextsWrong : ChangeSpec := { name := "dosTexts", fn := fun _ => fun
  | [d1, d2] => { results := [.lit (.bool false)], args := [d1, d2] }
  | _ => none }
def DosTextsWrongFalsely : Prop := dosTextsRow.holds Tryd.pinned (OpenSpec.ofChange dosTextsWrong)

/-- 'lighterlaw08.MatchTokens': WHATEVER THE INPUT: true; the input reads as it did. -/
def matchTokensSpec : ChangeSpec := { name := "matchTokens", fn := fun _ => fun
  | [d1, d2, d3] => { results := [.lit (.bool true)], args := [d1, d2, d3] }
  | _ => none }
def matchTokensRow : OpenClaim := { program := "ytfmbgnchedhneaadoor", sum := "a342a6bccaab2ff0e5da1119ce00b44401899ebbe9c788923052f98f59093f99", func := "lighter/lighterlaw08.MatchTokens", spec := "matchTokens", named := ["lighter/match.depths"], apart := false, laid := [("lighter/match.depths", laid_lighter_match_depths)] }
def MatchTokensSaid : Prop := matchTokensRow.holds Tryd.pinned (OpenSpec.ofChange matchTokensSpec)

/-- ITS FALSE NEIGHBOUR: 'it returns false'. Refute it at one input. -/
def matchTokensWrong : ChangeSpec := { name := "matchTokens", fn := fun _ => fun
  | [d1, d2, d3] => { results := [.lit (.bool false)], args := [d1, d2, d3] }
  | _ => none }
def MatchTokensWrongFalsely : Prop := matchTokensRow.holds Tryd.pinned (OpenSpec.ofChange matchTokensWrong)

/-- 'lighterlaw08.MatchFar': WHATEVER THE INPUT: true; the input reads as it did. -/
def matchFarSpec : ChangeSpec := { name := "matchFar", fn := fun _ => fun
  | [d1, d2, d3] => { results := [.lit (.bool true)], args := [d1, d2, d3] }
  | _ => none }
def matchFarRow : OpenClaim := { program := "ytfmbgnchedhneaadoor", sum := "a342a6bccaab2ff0e5da1119ce00b44401899ebbe9c788923052f98f59093f99", func := "lighter/lighterlaw08.MatchFar", spec := "matchFar", named := ["lighter/match.depths"], apart := false, laid := [("lighter/match.depths", laid_lighter_match_depths)] }
def MatchFarSaid : Prop := matchFarRow.holds Tryd.pinned (OpenSpec.ofChange matchFarSpec)

/-- ITS FALSE NEIGHBOUR: 'it returns false'. Refute it at one input. -/
def matchFarWrong : ChangeSpec := { name := "matchFar", fn := fun _ => fun
  | [d1, d2, d3] => { results := [.lit (.bool false)], args := [d1, d2, d3] }
  | _ => none }
def MatchFarWrongFalsely : Prop := matchFarRow.holds Tryd.pinned (OpenSpec.ofChange matchFarWrong)

/-- 'lighterlaw08.MatchFewest': WHATEVER THE INPUT: true; the input reads as it did. -/
def matchFewestSpec : ChangeSpec := { name := "matchFewest", fn := fun _ => fun
  | [d1, d2, d3] => { results := [.lit (.bool true)], args := [d1, d2, d3] }
  | _ => none }
def matchFewestRow : OpenClaim := { program := "ytfmbgnchedhneaadoor", sum := "a342a6bccaab2ff0e5da1119ce00b44401899ebbe9c788923052f98f59093f99", func := "lighter/lighterlaw08.MatchFewest", spec := "matchFewest", named := ["lighter/match.depths"], apart := false, laid := [("lighter/match.depths", laid_lighter_match_depths)] }
def MatchFewestSaid : Prop := matchFewestRow.holds Tryd.pinned (OpenSpec.ofChange matchFewestSpec)

/-- ITS FALSE NEIGHBOUR: 'it returns false'. Refute it at one input. -/
def matchFewestWrong : ChangeSpec := { name := "matchFewest", fn := fun _ => fun
  | [d1, d2, d3] => { results := [.lit (.bool false)], args := [d1, d2, d3] }
  | _ => none }
def MatchFewestWrongFalsely : Prop := matchFewestRow.holds Tryd.pinned (OpenSpec.ofChange matchFewestWrong)

/- THE SECOND FORM. 'bulk': how many values and letters a reading holds, each counted each time it is reached (what is shared counts as often as it is met; a slice's spare places count too). A statement '..UptoSaid' is the law's where the arguments, and the package variables that the reading takes, are together of bulk at most 1048576: NARROWER than '..Said'. Prove '..Said' where nothing that the law and all that it calls make is longer than what came in: it says more and counts as full. Else prove '..UptoSaid'. A law counts once. -/
mutual
def uptoBulk {H : Type} : DataW H → Nat
  | .lit (.string bytes) => bytes.length + 1
  | .lit _ => 1
  | .nil => 1
  | .ptr d => uptoBulk d + 1
  | .slice elems spare => uptoBulkAll elems + uptoBulkAll spare + 1
  | .agg parts => uptoBulkAll parts + 1
  | .iface _ d => uptoBulk d + 1
  | .map entries => uptoBulkEntries entries + 1
  | .held _ => 1
def uptoBulkAll {H : Type} : List (DataW H) → Nat
  | [] => 0
  | d :: r => uptoBulk d + uptoBulkAll r
def uptoBulkEntries {H : Type} : List (Lit × DataW H) → Nat
  | [] => 0
  | x :: r => uptoBulkEntry x + uptoBulkEntries r
def uptoBulkEntry {H : Type} : Lit × DataW H → Nat
  | (.string bytes, d) => bytes.length + uptoBulk d + 1
  | (_, d) => uptoBulk d + 1
 end
def uptoSmall : (H : Type) → List (DataW H) → Bool := fun _ ds => decide (uptoBulkAll ds ≤ 1048576)
def OpenSpec.upto (s : _root_.Go.ChangeSpec) : _root_.Go.OpenSpec := { _root_.Go.OpenSpec.ofChange s with cond := some uptoSmall }

/-- 'lighterlaw08.MatchLongest', WHERE WHAT IT READS IS OF BULK AT MOST 1048576: true; the input reads as it did. -/
def matchLongestUptoRow : OpenClaim := { program := "ytfmbgnchedhneaadoor", sum := "a342a6bccaab2ff0e5da1119ce00b44401899ebbe9c788923052f98f59093f99", func := "lighter/lighterlaw08.MatchLongest", spec := "matchLongest", named := ["lighter/match.depths"], apart := false, laid := [("lighter/match.depths", laid_lighter_match_depths)], narrowed := true }
def MatchLongestUptoSaid : Prop := matchLongestUptoRow.holds Tryd.pinned (OpenSpec.upto matchLongestSpec)

/-- 'lighterlaw08.MatchRuns', WHERE WHAT IT READS IS OF BULK AT MOST 1048576: true; the input reads as it did. -/
def matchRunsUptoRow : OpenClaim := { program := "ytfmbgnchedhneaadoor", sum := "a342a6bccaab2ff0e5da1119ce00b44401899ebbe9c788923052f98f59093f99", func := "lighter/lighterlaw08.MatchRuns", spec := "matchRuns", named := ["lighter/match.depths"], apart := false, laid := [("lighter/match.depths", laid_lighter_match_depths)], narrowed := true }
def MatchRunsUptoSaid : Prop := matchRunsUptoRow.holds Tryd.pinned (OpenSpec.upto matchRunsSpec)

/-- 'lighterlaw11.DosTexts', WHERE WHAT IT READS IS OF BULK AT MOST 1048576: true; the input reads as it did. -/
def dosTextsUptoRow : OpenClaim := { program := "ytfmbgnchedhneaadoor", sum := "a342a6bccaab2ff0e5da1119ce00b44401899ebbe9c788923052f98f59093f99", func := "lighter/lighterlaw11.DosTexts", spec := "dosTexts", named := ["lighter/dos.form"], apart := false, laid := [("lighter/dos.form", laid_lighter_dos_form)], narrowed := true }
def DosTextsUptoSaid : Prop := dosTextsUptoRow.holds Tryd.pinned (OpenSpec.upto dosTextsSpec)

/-- 'lighterlaw08.MatchTokens', WHERE WHAT IT READS IS OF BULK AT MOST 1048576: true; the input reads as it did. -/
def matchTokensUptoRow : OpenClaim := { program := "ytfmbgnchedhneaadoor", sum := "a342a6bccaab2ff0e5da1119ce00b44401899ebbe9c788923052f98f59093f99", func := "lighter/lighterlaw08.MatchTokens", spec := "matchTokens", named := ["lighter/match.depths"], apart := false, laid := [("lighter/match.depths", laid_lighter_match_depths)], narrowed := true }
def MatchTokensUptoSaid : Prop := matchTokensUptoRow.holds Tryd.pinned (OpenSpec.upto matchTokensSpec)

/-- 'lighterlaw08.MatchFar', WHERE WHAT IT READS IS OF BULK AT MOST 1048576: true; the input reads as it did. -/
def matchFarUptoRow : OpenClaim := { program := "ytfmbgnchedhneaadoor", sum := "a342a6bccaab2ff0e5da1119ce00b44401899ebbe9c788923052f98f59093f99", func := "lighter/lighterlaw08.MatchFar", spec := "matchFar", named := ["lighter/match.depths"], apart := false, laid := [("lighter/match.depths", laid_lighter_match_depths)], narrowed := true }
def MatchFarUptoSaid : Prop := matchFarUptoRow.holds Tryd.pinned (OpenSpec.upto matchFarSpec)

/-- 'lighterlaw08.MatchFewest', WHERE WHAT IT READS IS OF BULK AT MOST 1048576: true; the input reads as it did. -/
def matchFewestUptoRow : OpenClaim := { program := "ytfmbgnchedhneaadoor", sum := "a342a6bccaab2ff0e5da1119ce00b44401899ebbe9c788923052f98f59093f99", func := "lighter/lighterlaw08.MatchFewest", spec := "matchFewest", named := ["lighter/match.depths"], apart := false, laid := [("lighter/match.depths", laid_lighter_match_depths)], narrowed := true }
def MatchFewestUptoSaid : Prop := matchFewestUptoRow.holds Tryd.pinned (OpenSpec.upto matchFewestSpec)

end Rows
end Go.Proofs.YtfmbgnchedhneaaDoor
