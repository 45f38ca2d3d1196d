/-
  NARROWER THAN 'FOR EVERY INPUT', by the rows' own cells (each row's printed sentence says how): TopArchives: laid · TopMended: laid · TopKeeps: laid.
  DERIVED. THE GIVEN ROWS OF THIS SEAT. 3 by the template 'for every input the law returns true; each argument reads behind the call as it read before'; 0 by the template 'total and deterministic' (their statements: YtpcgccdmmoggmaaGreatDoorTotals.lean).
  GIVEN WITH THE SEED: the statements are not yours to turn. If you find one false, say at which input.
  Laid BY PROGRAM, IN A SANDBOX (cutbox-rows.mjs): the forced cells as the released guide's own fill.sh prints them over the translation 85c5925ab9e9ae80… (all of the seat's roots in one cut). By AI agents, Wed Nov 11 2026. No macro, syntax, notation, axiom, sorry.
-/
import Derived.Test.YtpcgccdmmoggmaaGreatDoorChecked
import GoSem.PinnedTables
import GoSem.Claim
import GoSem.ClaimJoined
import GoSem.ClaimMapViews
import Derived.JoinedTies
import Derived.KernelRfl
namespace Go.Proofs.YtpcgccdmmoggmaaGreatDoor
/- THE CELL 'sum', in the pinned program and in every row, IS THE sha256 OF THE DUMP (.gsa) THAT YtpcgccdmmoggmaaGreatDoorProg.lean LOADS. Nothing in Lean hashes anything: it is a label: what it is worth is what the hold of that sum in a sandbox is worth. -/
noncomputable def Tryz.pinned : Pinned := { name := "ytpcgccdmmoggmaagreatdoor", sum := "85c5925ab9e9ae80b8e54a2ee602034262bb090e0f6850bfd25fc000b9c22d7a", checked := Tryz.checked }
namespace Rows
def none {H : Type} : Left H := { results := [], args := [] }

/- WHAT THE LISTED PACKAGE-LEVEL VARIABLES READ AS WHEN THE CALL BEGINS. Each datum BY PROGRAM (the guide's laid-datum.mjs) off the statement by which the dump's own 'gosem.cut.vars' lays the variable. In a bare row this is a premise. The card (YtpcgccdmmoggmaaGreatDoorCards.lean) ties it to the program's text. -/
def laid_lighter_match_depths {H : Type} : DataW H := .agg [.lit (.int .i64 0), .lit (.int .i64 4), .lit (.int .i64 8), .lit (.int .i64 16), .lit (.int .i64 16), .lit (.int .i64 32), .lit (.int .i64 64), .lit (.int .i64 128), .lit (.int .i64 512), .lit (.int .i64 1073741824)]
def laid_unicode_utf8_acceptRanges {H : Type} : DataW H := .agg [.agg [.lit (.int .u8 128), .lit (.int .u8 191)], .agg [.lit (.int .u8 160), .lit (.int .u8 191)], .agg [.lit (.int .u8 128), .lit (.int .u8 159)], .agg [.lit (.int .u8 144), .lit (.int .u8 191)], .agg [.lit (.int .u8 128), .lit (.int .u8 143)], .agg [.lit (.int .u8 0), .lit (.int .u8 0)], .agg [.lit (.int .u8 0), .lit (.int .u8 0)], .agg [.lit (.int .u8 0), .lit (.int .u8 0)], .agg [.lit (.int .u8 0), .lit (.int .u8 0)], .agg [.lit (.int .u8 0), .lit (.int .u8 0)], .agg [.lit (.int .u8 0), .lit (.int .u8 0)], .agg [.lit (.int .u8 0), .lit (.int .u8 0)], .agg [.lit (.int .u8 0), .lit (.int .u8 0)], .agg [.lit (.int .u8 0), .lit (.int .u8 0)], .agg [.lit (.int .u8 0), .lit (.int .u8 0)], .agg [.lit (.int .u8 0), .lit (.int .u8 0)]]
def laid_lighter_block_order {H : Type} : DataW H := .agg [.lit (.int .i64 16), .lit (.int .i64 17), .lit (.int .i64 18), .lit (.int .i64 0), .lit (.int .i64 8), .lit (.int .i64 7), .lit (.int .i64 9), .lit (.int .i64 6), .lit (.int .i64 10), .lit (.int .i64 5), .lit (.int .i64 11), .lit (.int .i64 4), .lit (.int .i64 12), .lit (.int .i64 3), .lit (.int .i64 13), .lit (.int .i64 2), .lit (.int .i64 14), .lit (.int .i64 1), .lit (.int .i64 15)]
def laid_lighter_inflate_order {H : Type} : DataW H := .agg [.lit (.int .i64 16), .lit (.int .i64 17), .lit (.int .i64 18), .lit (.int .i64 0), .lit (.int .i64 8), .lit (.int .i64 7), .lit (.int .i64 9), .lit (.int .i64 6), .lit (.int .i64 10), .lit (.int .i64 5), .lit (.int .i64 11), .lit (.int .i64 4), .lit (.int .i64 12), .lit (.int .i64 3), .lit (.int .i64 13), .lit (.int .i64 2), .lit (.int .i64 14), .lit (.int .i64 1), .lit (.int .i64 15)]
/-- One of Go's own tables, pinned by name: the form's constant. -/
def laid_unicode_utf8_first : DataW Unit := Go.Pinned.utf8First

/-- 'lightertop.TopArchives': WHATEVER THE INPUT: true; the input reads as it did. -/
def topArchivesSpec : ChangeSpec := { name := "topArchives", fn := fun _ => fun
  | [d1, d2, d3] => { results := [.lit (.bool true)], args := [d1, d2, d3] }
  | _ => none }
def topArchivesRow : OpenClaim := { program := "ytpcgccdmmoggmaagreatdoor", sum := "85c5925ab9e9ae80b8e54a2ee602034262bb090e0f6850bfd25fc000b9c22d7a", func := "lighter/lightertop.TopArchives", spec := "topArchives", inPlace := ["internal/bytealg.IndexByteString", "internal/bytealg.IndexString", "internal/abi.NoEscape", "internal/bytealg.MakeNoZero"], unfollowed := true, recurses := true, named := ["unicode/utf8.first", "unicode/utf8.acceptRanges", "internal/bytealg.MaxLen", "lighter/match.depths", "lighter/block.order", "lighter/inflate.order"], apart := false, laid := [("lighter/match.depths", laid_lighter_match_depths), ("unicode/utf8.acceptRanges", laid_unicode_utf8_acceptRanges), ("lighter/block.order", laid_lighter_block_order), ("lighter/inflate.order", laid_lighter_inflate_order), ("unicode/utf8.first", laid_unicode_utf8_first)] }
def TopArchivesSaid : Prop := topArchivesRow.holds Tryz.pinned (OpenSpec.ofChange topArchivesSpec)

/-- ITS FALSE NEIGHBOUR: 'it returns false'. Refute it at one input. -/
def topArchivesWrong : ChangeSpec := { name := "topArchives", fn := fun _ => fun
  | [d1, d2, d3] => { results := [.lit (.bool false)], args := [d1, d2, d3] }
  | _ => none }
def TopArchivesWrongFalsely : Prop := topArchivesRow.holds Tryz.pinned (OpenSpec.ofChange topArchivesWrong)

/-- 'lightertop.TopMended': WHATEVER THE INPUT: true; the input reads as it did. -/
def topMendedSpec : ChangeSpec := { name := "topMended", fn := fun _ => fun
  | [d1, d2, d3] => { results := [.lit (.bool true)], args := [d1, d2, d3] }
  | _ => none }
def topMendedRow : OpenClaim := { program := "ytpcgccdmmoggmaagreatdoor", sum := "85c5925ab9e9ae80b8e54a2ee602034262bb090e0f6850bfd25fc000b9c22d7a", func := "lighter/lightertop.TopMended", spec := "topMended", inPlace := ["internal/bytealg.IndexByteString", "internal/bytealg.IndexString", "internal/abi.NoEscape", "internal/bytealg.MakeNoZero"], unfollowed := true, recurses := true, named := ["unicode/utf8.first", "unicode/utf8.acceptRanges", "internal/bytealg.MaxLen", "lighter/match.depths", "lighter/block.order", "lighter/inflate.order"], apart := false, laid := [("lighter/match.depths", laid_lighter_match_depths), ("unicode/utf8.acceptRanges", laid_unicode_utf8_acceptRanges), ("lighter/block.order", laid_lighter_block_order), ("lighter/inflate.order", laid_lighter_inflate_order), ("unicode/utf8.first", laid_unicode_utf8_first)] }
def TopMendedSaid : Prop := topMendedRow.holds Tryz.pinned (OpenSpec.ofChange topMendedSpec)

/-- ITS FALSE NEIGHBOUR: 'it returns false'. Refute it at one input. -/
def topMendedWrong : ChangeSpec := { name := "topMended", fn := fun _ => fun
  | [d1, d2, d3] => { results := [.lit (.bool false)], args := [d1, d2, d3] }
  | _ => none }
def TopMendedWrongFalsely : Prop := topMendedRow.holds Tryz.pinned (OpenSpec.ofChange topMendedWrong)

/-- 'lightertop.TopKeeps': WHATEVER THE INPUT: true; the input reads as it did. -/
def topKeepsSpec : ChangeSpec := { name := "topKeeps", fn := fun _ => fun
  | [d1, d2, d3] => { results := [.lit (.bool true)], args := [d1, d2, d3] }
  | _ => none }
def topKeepsRow : OpenClaim := { program := "ytpcgccdmmoggmaagreatdoor", sum := "85c5925ab9e9ae80b8e54a2ee602034262bb090e0f6850bfd25fc000b9c22d7a", func := "lighter/lightertop.TopKeeps", spec := "topKeeps", inPlace := ["internal/abi.NoEscape", "internal/bytealg.MakeNoZero", "internal/bytealg.IndexByteString", "internal/bytealg.IndexString"], unfollowed := true, recurses := true, named := ["unicode/utf8.first", "unicode/utf8.acceptRanges", "internal/bytealg.MaxLen", "lighter/match.depths", "lighter/block.order", "lighter/inflate.order"], apart := false, laid := [("lighter/match.depths", laid_lighter_match_depths), ("unicode/utf8.acceptRanges", laid_unicode_utf8_acceptRanges), ("lighter/block.order", laid_lighter_block_order), ("lighter/inflate.order", laid_lighter_inflate_order), ("unicode/utf8.first", laid_unicode_utf8_first)] }
def TopKeepsSaid : Prop := topKeepsRow.holds Tryz.pinned (OpenSpec.ofChange topKeepsSpec)

/-- ITS FALSE NEIGHBOUR: 'it returns false'. Refute it at one input. -/
def topKeepsWrong : ChangeSpec := { name := "topKeeps", fn := fun _ => fun
  | [d1, d2, d3] => { results := [.lit (.bool false)], args := [d1, d2, d3] }
  | _ => none }
def TopKeepsWrongFalsely : Prop := topKeepsRow.holds Tryz.pinned (OpenSpec.ofChange topKeepsWrong)

/- THE SECOND FORM. 'bulk': how many values and letters a reading holds, each counted each time it is reached (what is shared counts as often as it is met; a slice's spare places count too). A statement '..UptoSaid' is the law's where the arguments, and the package variables that the reading takes, are together of bulk at most 1048576: NARROWER than '..Said'. Prove '..Said' where nothing that the law and all that it calls make is longer than what came in: it says more and counts as full. Else prove '..UptoSaid'. A law counts once. -/
mutual
def uptoBulk {H : Type} : DataW H → Nat
  | .lit (.string bytes) => bytes.length + 1
  | .lit _ => 1
  | .nil => 1
  | .ptr d => uptoBulk d + 1
  | .slice elems spare => uptoBulkAll elems + uptoBulkAll spare + 1
  | .agg parts => uptoBulkAll parts + 1
  | .iface _ d => uptoBulk d + 1
  | .map entries => uptoBulkEntries entries + 1
  | .held _ => 1
def uptoBulkAll {H : Type} : List (DataW H) → Nat
  | [] => 0
  | d :: r => uptoBulk d + uptoBulkAll r
def uptoBulkEntries {H : Type} : List (Lit × DataW H) → Nat
  | [] => 0
  | x :: r => uptoBulkEntry x + uptoBulkEntries r
def uptoBulkEntry {H : Type} : Lit × DataW H → Nat
  | (.string bytes, d) => bytes.length + uptoBulk d + 1
  | (_, d) => uptoBulk d + 1
 end
def uptoSmall : (H : Type) → List (DataW H) → Bool := fun _ ds => decide (uptoBulkAll ds ≤ 1048576)
def OpenSpec.upto (s : _root_.Go.ChangeSpec) : _root_.Go.OpenSpec := { _root_.Go.OpenSpec.ofChange s with cond := some uptoSmall }

/-- 'lightertop.TopArchives', WHERE WHAT IT READS IS OF BULK AT MOST 1048576: true; the input reads as it did. -/
def topArchivesUptoRow : OpenClaim := { program := "ytpcgccdmmoggmaagreatdoor", sum := "85c5925ab9e9ae80b8e54a2ee602034262bb090e0f6850bfd25fc000b9c22d7a", func := "lighter/lightertop.TopArchives", spec := "topArchives", inPlace := ["internal/bytealg.IndexByteString", "internal/bytealg.IndexString", "internal/abi.NoEscape", "internal/bytealg.MakeNoZero"], unfollowed := true, recurses := true, named := ["unicode/utf8.first", "unicode/utf8.acceptRanges", "internal/bytealg.MaxLen", "lighter/match.depths", "lighter/block.order", "lighter/inflate.order"], apart := false, laid := [("lighter/match.depths", laid_lighter_match_depths), ("unicode/utf8.acceptRanges", laid_unicode_utf8_acceptRanges), ("lighter/block.order", laid_lighter_block_order), ("lighter/inflate.order", laid_lighter_inflate_order), ("unicode/utf8.first", laid_unicode_utf8_first)], narrowed := true }
def TopArchivesUptoSaid : Prop := topArchivesUptoRow.holds Tryz.pinned (OpenSpec.upto topArchivesSpec)

/-- 'lightertop.TopMended', WHERE WHAT IT READS IS OF BULK AT MOST 1048576: true; the input reads as it did. -/
def topMendedUptoRow : OpenClaim := { program := "ytpcgccdmmoggmaagreatdoor", sum := "85c5925ab9e9ae80b8e54a2ee602034262bb090e0f6850bfd25fc000b9c22d7a", func := "lighter/lightertop.TopMended", spec := "topMended", inPlace := ["internal/bytealg.IndexByteString", "internal/bytealg.IndexString", "internal/abi.NoEscape", "internal/bytealg.MakeNoZero"], unfollowed := true, recurses := true, named := ["unicode/utf8.first", "unicode/utf8.acceptRanges", "internal/bytealg.MaxLen", "lighter/match.depths", "lighter/block.order", "lighter/inflate.order"], apart := false, laid := [("lighter/match.depths", laid_lighter_match_depths), ("unicode/utf8.acceptRanges", laid_unicode_utf8_acceptRanges), ("lighter/block.order", laid_lighter_block_order), ("lighter/inflate.order", laid_lighter_inflate_order), ("unicode/utf8.first", laid_unicode_utf8_first)], narrowed := true }
def TopMendedUptoSaid : Prop := topMendedUptoRow.holds Tryz.pinned (OpenSpec.upto topMendedSpec)

/-- 'lightertop.TopKeeps', WHERE WHAT IT READS IS OF BULK AT MOST 1048576: true; the input reads as it did. -/
def topKeepsUptoRow : OpenClaim := { program := "ytpcgccdmmoggmaagreatdoor", sum := "85c5925ab9e9ae80b8e54a2ee602034262bb090e0f6850bfd25fc000b9c22d7a", func := "lighter/lightertop.TopKeeps", spec := "topKeeps", inPlace := ["internal/abi.NoEscape", "internal/bytealg.MakeNoZero", "internal/bytealg.IndexByteString", "internal/bytealg.IndexString"], unfollowed := true, recurses := true, named := ["unicode/utf8.first", "unicode/utf8.acceptRanges", "internal/bytealg.MaxLen", "lighter/match.depths", "lighter/block.order", "lighter/inflate.order"], apart := false, laid := [("lighter/match.depths", laid_lighter_match_depths), ("unicode/utf8.acceptRanges", laid_unicode_utf8_acceptRanges), ("lighter/block.order", laid_lighter_block_order), ("lighter/inflate.order", laid_lighter_inflate_order), ("unicode/utf8.first", laid_unicode_utf8_first)], narrowed := true }
def TopKeepsUptoSaid : Prop := topKeepsUptoRow.holds Tryz.pinned (OpenSpec.upto topKeepsSpec)

end Rows
end Go.Proofs.YtpcgccdmmoggmaaGreatDoor
