/-
  NARROWER THAN 'FOR EVERY INPUT', by the rows' own cells (each row's printed sentence says how): SegmentReads: laid · SegmentTorn: laid · SegmentUnlike: laid · TalkLays: laid · TalkReads: laid · TalkSpoilt: laid · TalkUnlike: laid.
  DERIVED. THE GIVEN ROWS OF THIS SEAT. 7 by the template 'for every input the law returns true; each argument reads behind the call as it read before'; 0 by the template 'total and deterministic' (their statements: YtfocilpnbiciaaaDoorTotals.lean).
  GIVEN WITH THE SEED: the statements are not yours to turn. If you find one false, say at which input.
  Laid BY PROGRAM, IN A SANDBOX (cutbox-rows.mjs): the forced cells as the released guide's own fill.sh prints them over the translation 55f9455e38c22847… (all of the seat's roots in one cut). By AI agents, Wed Nov 11 2026. No macro, syntax, notation, axiom, sorry.
-/
import Derived.Test.YtfocilpnbiciaaaDoorChecked
import GoSem.PinnedTables
import GoSem.Claim
import GoSem.ClaimJoined
import GoSem.ClaimMapViews
import Derived.JoinedTies
import Derived.KernelRfl
namespace Go.Proofs.YtfocilpnbiciaaaDoor
/- THE CELL 'sum', in the pinned program and in every row, IS THE sha256 OF THE DUMP (.gsa) THAT YtfocilpnbiciaaaDoorProg.lean LOADS. Nothing in Lean hashes anything: it is a label: what it is worth is what the hold of that sum in a sandbox is worth. -/
noncomputable def Tryd.pinned : Pinned := { name := "ytfocilpnbiciaaadoor", sum := "55f9455e38c22847aa0f15d9626d496ef481779a2d8c20600d223261a17a8457", checked := Tryd.checked }
namespace Rows
def none {H : Type} : Left H := { results := [], args := [] }

/- WHAT THE LISTED PACKAGE-LEVEL VARIABLES READ AS WHEN THE CALL BEGINS. Each datum BY PROGRAM (the guide's laid-datum.mjs) off the statement by which the dump's own 'gosem.cut.vars' lays the variable. In a bare row this is a premise. The card (YtfocilpnbiciaaaDoorCards.lean) ties it to the program's text. -/
def laid_unicode_utf8_acceptRanges {H : Type} : DataW H := .agg [.agg [.lit (.int .u8 128), .lit (.int .u8 191)], .agg [.lit (.int .u8 160), .lit (.int .u8 191)], .agg [.lit (.int .u8 128), .lit (.int .u8 159)], .agg [.lit (.int .u8 144), .lit (.int .u8 191)], .agg [.lit (.int .u8 128), .lit (.int .u8 143)], .agg [.lit (.int .u8 0), .lit (.int .u8 0)], .agg [.lit (.int .u8 0), .lit (.int .u8 0)], .agg [.lit (.int .u8 0), .lit (.int .u8 0)], .agg [.lit (.int .u8 0), .lit (.int .u8 0)], .agg [.lit (.int .u8 0), .lit (.int .u8 0)], .agg [.lit (.int .u8 0), .lit (.int .u8 0)], .agg [.lit (.int .u8 0), .lit (.int .u8 0)], .agg [.lit (.int .u8 0), .lit (.int .u8 0)], .agg [.lit (.int .u8 0), .lit (.int .u8 0)], .agg [.lit (.int .u8 0), .lit (.int .u8 0)], .agg [.lit (.int .u8 0), .lit (.int .u8 0)]]
/-- One of Go's own tables, pinned by name: the form's constant. -/
def laid_unicode_utf8_first : DataW Unit := Go.Pinned.utf8First

/-- 'grapevinelaw8.SegmentReads': WHATEVER THE INPUT: true; the input reads as it did. -/
def segmentReadsSpec : ChangeSpec := { name := "segmentReads", fn := fun _ => fun
  | [d1, d2] => { results := [.lit (.bool true)], args := [d1, d2] }
  | _ => none }
def segmentReadsRow : OpenClaim := { program := "ytfocilpnbiciaaadoor", sum := "55f9455e38c22847aa0f15d9626d496ef481779a2d8c20600d223261a17a8457", func := "grapevine/grapevinelaw8.SegmentReads", spec := "segmentReads", named := ["unicode/utf8.first", "unicode/utf8.acceptRanges"], apart := false, laid := [("unicode/utf8.acceptRanges", laid_unicode_utf8_acceptRanges), ("unicode/utf8.first", laid_unicode_utf8_first)] }
def SegmentReadsSaid : Prop := segmentReadsRow.holds Tryd.pinned (OpenSpec.ofChange segmentReadsSpec)

/-- ITS FALSE NEIGHBOUR: 'it returns false'. Refute it at one input. -/
def segmentReadsWrong : ChangeSpec := { name := "segmentReads", fn := fun _ => fun
  | [d1, d2] => { results := [.lit (.bool false)], args := [d1, d2] }
  | _ => none }
def SegmentReadsWrongFalsely : Prop := segmentReadsRow.holds Tryd.pinned (OpenSpec.ofChange segmentReadsWrong)

/-- 'grapevinelaw8.SegmentTorn': WHATEVER THE INPUT: true; the input reads as it did. -/
def segmentTornSpec : ChangeSpec := { name := "segmentTorn", fn := fun _ => fun
  | [d1, d2, d3, d4] => { results := [.lit (.bool true)], args := [d1, d2, d3, d4] }
  | _ => none }
def segmentTornRow : OpenClaim := { program := "ytfocilpnbiciaaadoor", sum := "55f9455e38c22847aa0f15d9626d496ef481779a2d8c20600d223261a17a8457", func := "grapevine/grapevinelaw8.SegmentTorn", spec := "segmentTorn", named := ["unicode/utf8.first", "unicode/utf8.acceptRanges"], apart := false, laid := [("unicode/utf8.acceptRanges", laid_unicode_utf8_acceptRanges), ("unicode/utf8.first", laid_unicode_utf8_first)] }
def SegmentTornSaid : Prop := segmentTornRow.holds Tryd.pinned (OpenSpec.ofChange segmentTornSpec)

/-- ITS FALSE NEIGHBOUR: 'it returns false'. Refute it at one input. -/
def segmentTornWrong : ChangeSpec := { name := "segmentTorn", fn := fun _ => fun
  | [d1, d2, d3, d4] => { results := [.lit (.bool false)], args := [d1, d2, d3, d4] }
  | _ => none }
def SegmentTornWrongFalsely : Prop := segmentTornRow.holds Tryd.pinned (OpenSpec.ofChange segmentTornWrong)

/-- 'grapevinelaw8.SegmentUnlike': WHATEVER THE INPUT: true; the input reads as it did. -/
def segmentUnlikeSpec : ChangeSpec := { name := "segmentUnlike", fn := fun _ => fun
  | [d1, d2, d3] => { results := [.lit (.bool true)], args := [d1, d2, d3] }
  | _ => none }
def segmentUnlikeRow : OpenClaim := { program := "ytfocilpnbiciaaadoor", sum := "55f9455e38c22847aa0f15d9626d496ef481779a2d8c20600d223261a17a8457", func := "grapevine/grapevinelaw8.SegmentUnlike", spec := "segmentUnlike", named := ["unicode/utf8.first", "unicode/utf8.acceptRanges"], apart := false, laid := [("unicode/utf8.acceptRanges", laid_unicode_utf8_acceptRanges), ("unicode/utf8.first", laid_unicode_utf8_first)] }
def SegmentUnlikeSaid : Prop := segmentUnlikeRow.holds Tryd.pinned (OpenSpec.ofChange segmentUnlikeSpec)

/-- ITS FALSE NEIGHBOUR: 'it returns false'. Refute it at one input. -/
def segmentUnlikeWrong : ChangeSpec := { name := "segmentUnlike", fn := fun _ => fun
  | [d1, d2, d3] => { results := [.lit (.bool false)], args := [d1, d2, d3] }
  | _ => none }
def SegmentUnlikeWrongFalsely : Prop := segmentUnlikeRow.holds Tryd.pinned (OpenSpec.ofChange segmentUnlikeWrong)

/-- 'grapevinelaw20.TalkLays': WHATEVER THE INPUT: true; the input reads as it did. -/
def talkLaysSpec : ChangeSpec := { name := "talkLays", fn := fun _ => fun
  | [d1, d2, d3] => { results := [.lit (.bool true)], args := [d1, d2, d3] }
  | _ => none }
def talkLaysRow : OpenClaim := { program := "ytfocilpnbiciaaadoor", sum := "55f9455e38c22847aa0f15d9626d496ef481779a2d8c20600d223261a17a8457", func := "grapevine/grapevinelaw20.TalkLays", spec := "talkLays", unfollowed := true, recurses := true, named := ["unicode/utf8.first", "unicode/utf8.acceptRanges"], apart := false, laid := [("unicode/utf8.acceptRanges", laid_unicode_utf8_acceptRanges), ("unicode/utf8.first", laid_unicode_utf8_first)] }
def TalkLaysSaid : Prop := talkLaysRow.holds Tryd.pinned (OpenSpec.ofChange talkLaysSpec)

/-- ITS FALSE NEIGHBOUR: 'it returns false'. Refute it at one input. -/
def talkLaysWrong : ChangeSpec := { name := "talkLays", fn := fun _ => fun
  | [d1, d2, d3] => { results := [.lit (.bool false)], args := [d1, d2, d3] }
  | _ => none }
def TalkLaysWrongFalsely : Prop := talkLaysRow.holds Tryd.pinned (OpenSpec.ofChange talkLaysWrong)

/-- 'grapevinelaw20.TalkReads': WHATEVER THE INPUT: true; the input reads as it did. -/
def talkReadsSpec : ChangeSpec := { name := "talkReads", fn := fun _ => fun
  | [d1, d2] => { results := [.lit (.bool true)], args := [d1, d2] }
  | _ => none }
def talkReadsRow : OpenClaim := { program := "ytfocilpnbiciaaadoor", sum := "55f9455e38c22847aa0f15d9626d496ef481779a2d8c20600d223261a17a8457", func := "grapevine/grapevinelaw20.TalkReads", spec := "talkReads", unfollowed := true, recurses := true, named := ["unicode/utf8.first", "unicode/utf8.acceptRanges"], apart := false, laid := [("unicode/utf8.acceptRanges", laid_unicode_utf8_acceptRanges), ("unicode/utf8.first", laid_unicode_utf8_first)] }
def TalkReadsSaid : Prop := talkReadsRow.holds Tryd.pinned (OpenSpec.ofChange talkReadsSpec)

/-- ITS FALSE NEIGHBOUR: 'it returns false'. Refute it at one input. -/
def talkReadsWrong : ChangeSpec := { name := "talkReads", fn := fun _ => fun
  | [d1, d2] => { results := [.lit (.bool false)], args := [d1, d2] }
  | _ => none }
def TalkReadsWrongFalsely : Prop := talkReadsRow.holds Tryd.pinned (OpenSpec.ofChange talkReadsWrong)

/-- 'grapevinelaw20.TalkSpoilt': WHATEVER THE INPUT: true; the input reads as it did. -/
def talkSpoiltSpec : ChangeSpec := { name := "talkSpoilt", fn := fun _ => fun
  | [d1, d2, d3, d4] => { results := [.lit (.bool true)], args := [d1, d2, d3, d4] }
  | _ => none }
def talkSpoiltRow : OpenClaim := { program := "ytfocilpnbiciaaadoor", sum := "55f9455e38c22847aa0f15d9626d496ef481779a2d8c20600d223261a17a8457", func := "grapevine/grapevinelaw20.TalkSpoilt", spec := "talkSpoilt", unfollowed := true, recurses := true, named := ["unicode/utf8.first", "unicode/utf8.acceptRanges"], apart := false, laid := [("unicode/utf8.acceptRanges", laid_unicode_utf8_acceptRanges), ("unicode/utf8.first", laid_unicode_utf8_first)] }
def TalkSpoiltSaid : Prop := talkSpoiltRow.holds Tryd.pinned (OpenSpec.ofChange talkSpoiltSpec)

/-- ITS FALSE NEIGHBOUR: 'it returns false'. Refute it at one input. -/
def talkSpoiltWrong : ChangeSpec := { name := "talkSpoilt", fn := fun _ => fun
  | [d1, d2, d3, d4] => { results := [.lit (.bool false)], args := [d1, d2, d3, d4] }
  | _ => none }
def TalkSpoiltWrongFalsely : Prop := talkSpoiltRow.holds Tryd.pinned (OpenSpec.ofChange talkSpoiltWrong)

/-- 'grapevinelaw20.TalkUnlike': WHATEVER THE INPUT: true; the input reads as it did. -/
def talkUnlikeSpec : ChangeSpec := { name := "talkUnlike", fn := fun _ => fun
  | [d1, d2, d3] => { results := [.lit (.bool true)], args := [d1, d2, d3] }
  | _ => none }
def talkUnlikeRow : OpenClaim := { program := "ytfocilpnbiciaaadoor", sum := "55f9455e38c22847aa0f15d9626d496ef481779a2d8c20600d223261a17a8457", func := "grapevine/grapevinelaw20.TalkUnlike", spec := "talkUnlike", unfollowed := true, recurses := true, named := ["unicode/utf8.first", "unicode/utf8.acceptRanges"], apart := false, laid := [("unicode/utf8.acceptRanges", laid_unicode_utf8_acceptRanges), ("unicode/utf8.first", laid_unicode_utf8_first)] }
def TalkUnlikeSaid : Prop := talkUnlikeRow.holds Tryd.pinned (OpenSpec.ofChange talkUnlikeSpec)

/-- ITS FALSE NEIGHBOUR: 'it returns false'. Refute it at one input. -/
def talkUnlikeWrong : ChangeSpec := { name := "talkUnlike", fn := fun _ => fun
  | [d1, d2, d3] => { results := [.lit (.bool false)], args := [d1, d2, d3] }
  | _ => none }
def TalkUnlikeWrongFalsely : Prop := talkUnlikeRow.holds Tryd.pinned (OpenSpec.ofChange talkUnlikeWrong)

/- THE SECOND FORM. 'bulk': how many values and letters a reading holds, each counted each time it is reached (what is shared counts as often as it is met; a slice's spare places count too). A statement '..UptoSaid' is the law's where the arguments, and the package variables that the reading takes, are together of bulk at most 1048576: NARROWER than '..Said'. Prove '..Said' where nothing that the law and all that it calls make is longer than what came in: it says more and counts as full. Else prove '..UptoSaid'. A law counts once. -/
mutual
def uptoBulk {H : Type} : DataW H → Nat
  | .lit (.string bytes) => bytes.length + 1
  | .lit _ => 1
  | .nil => 1
  | .ptr d => uptoBulk d + 1
  | .slice elems spare => uptoBulkAll elems + uptoBulkAll spare + 1
  | .agg parts => uptoBulkAll parts + 1
  | .iface _ d => uptoBulk d + 1
  | .map entries => uptoBulkEntries entries + 1
  | .held _ => 1
def uptoBulkAll {H : Type} : List (DataW H) → Nat
  | [] => 0
  | d :: r => uptoBulk d + uptoBulkAll r
def uptoBulkEntries {H : Type} : List (Lit × DataW H) → Nat
  | [] => 0
  | x :: r => uptoBulkEntry x + uptoBulkEntries r
def uptoBulkEntry {H : Type} : Lit × DataW H → Nat
  | (.string bytes, d) => bytes.length + uptoBulk d + 1
  | (_, d) => uptoBulk d + 1
 end
def uptoSmall : (H : Type) → List (DataW H) → Bool := fun _ ds => decide (uptoBulkAll ds ≤ 1048576)
def OpenSpec.upto (s : _root_.Go.ChangeSpec) : _root_.Go.OpenSpec := { _root_.Go.OpenSpec.ofChange s with cond := some uptoSmall }

/-- 'grapevinelaw8.SegmentReads', WHERE WHAT IT READS IS OF BULK AT MOST 1048576: true; the input reads as it did. -/
def segmentReadsUptoRow : OpenClaim := { program := "ytfocilpnbiciaaadoor", sum := "55f9455e38c22847aa0f15d9626d496ef481779a2d8c20600d223261a17a8457", func := "grapevine/grapevinelaw8.SegmentReads", spec := "segmentReads", named := ["unicode/utf8.first", "unicode/utf8.acceptRanges"], apart := false, laid := [("unicode/utf8.acceptRanges", laid_unicode_utf8_acceptRanges), ("unicode/utf8.first", laid_unicode_utf8_first)], narrowed := true }
def SegmentReadsUptoSaid : Prop := segmentReadsUptoRow.holds Tryd.pinned (OpenSpec.upto segmentReadsSpec)

/-- 'grapevinelaw8.SegmentTorn', WHERE WHAT IT READS IS OF BULK AT MOST 1048576: true; the input reads as it did. -/
def segmentTornUptoRow : OpenClaim := { program := "ytfocilpnbiciaaadoor", sum := "55f9455e38c22847aa0f15d9626d496ef481779a2d8c20600d223261a17a8457", func := "grapevine/grapevinelaw8.SegmentTorn", spec := "segmentTorn", named := ["unicode/utf8.first", "unicode/utf8.acceptRanges"], apart := false, laid := [("unicode/utf8.acceptRanges", laid_unicode_utf8_acceptRanges), ("unicode/utf8.first", laid_unicode_utf8_first)], narrowed := true }
def SegmentTornUptoSaid : Prop := segmentTornUptoRow.holds Tryd.pinned (OpenSpec.upto segmentTornSpec)

/-- 'grapevinelaw8.SegmentUnlike', WHERE WHAT IT READS IS OF BULK AT MOST 1048576: true; the input reads as it did. -/
def segmentUnlikeUptoRow : OpenClaim := { program := "ytfocilpnbiciaaadoor", sum := "55f9455e38c22847aa0f15d9626d496ef481779a2d8c20600d223261a17a8457", func := "grapevine/grapevinelaw8.SegmentUnlike", spec := "segmentUnlike", named := ["unicode/utf8.first", "unicode/utf8.acceptRanges"], apart := false, laid := [("unicode/utf8.acceptRanges", laid_unicode_utf8_acceptRanges), ("unicode/utf8.first", laid_unicode_utf8_first)], narrowed := true }
def SegmentUnlikeUptoSaid : Prop := segmentUnlikeUptoRow.holds Tryd.pinned (OpenSpec.upto segmentUnlikeSpec)

/-- 'grapevinelaw20.TalkLays', WHERE WHAT IT READS IS OF BULK AT MOST 1048576: true; the input reads as it did. -/
def talkLaysUptoRow : OpenClaim := { program := "ytfocilpnbiciaaadoor", sum := "55f9455e38c22847aa0f15d9626d496ef481779a2d8c20600d223261a17a8457", func := "grapevine/grapevinelaw20.TalkLays", spec := "talkLays", unfollowed := true, recurses := true, named := ["unicode/utf8.first", "unicode/utf8.acceptRanges"], apart := false, laid := [("unicode/utf8.acceptRanges", laid_unicode_utf8_acceptRanges), ("unicode/utf8.first", laid_unicode_utf8_first)], narrowed := true }
def TalkLaysUptoSaid : Prop := talkLaysUptoRow.holds Tryd.pinned (OpenSpec.upto talkLaysSpec)

/-- 'grapevinelaw20.TalkReads', WHERE WHAT IT READS IS OF BULK AT MOST 1048576: true; the input reads as it did. -/
def talkReadsUptoRow : OpenClaim := { program := "ytfocilpnbiciaaadoor", sum := "55f9455e38c22847aa0f15d9626d496ef481779a2d8c20600d223261a17a8457", func := "grapevine/grapevinelaw20.TalkReads", spec := "talkReads", unfollowed := true, recurses := true, named := ["unicode/utf8.first", "unicode/utf8.acceptRanges"], apart := false, laid := [("unicode/utf8.acceptRanges", laid_unicode_utf8_acceptRanges), ("unicode/utf8.first", laid_unicode_utf8_first)], narrowed := true }
def TalkReadsUptoSaid : Prop := talkReadsUptoRow.holds Tryd.pinned (OpenSpec.upto talkReadsSpec)

/-- 'grapevinelaw20.TalkSpoilt', WHERE WHAT IT READS IS OF BULK AT MOST 1048576: true; the input reads as it did. -/
def talkSpoiltUptoRow : OpenClaim := { program := "ytfocilpnbiciaaadoor", sum := "55f9455e38c22847aa0f15d9626d496ef481779a2d8c20600d223261a17a8457", func := "grapevine/grapevinelaw20.TalkSpoilt", spec := "talkSpoilt", unfollowed := true, recurses := true, named := ["unicode/utf8.first", "unicode/utf8.acceptRanges"], apart := false, laid := [("unicode/utf8.acceptRanges", laid_unicode_utf8_acceptRanges), ("unicode/utf8.first", laid_unicode_utf8_first)], narrowed := true }
def TalkSpoiltUptoSaid : Prop := talkSpoiltUptoRow.holds Tryd.pinned (OpenSpec.upto talkSpoiltSpec)

/-- 'grapevinelaw20.TalkUnlike', WHERE WHAT IT READS IS OF BULK AT MOST 1048576: true; the input reads as it did. -/
def talkUnlikeUptoRow : OpenClaim := { program := "ytfocilpnbiciaaadoor", sum := "55f9455e38c22847aa0f15d9626d496ef481779a2d8c20600d223261a17a8457", func := "grapevine/grapevinelaw20.TalkUnlike", spec := "talkUnlike", unfollowed := true, recurses := true, named := ["unicode/utf8.first", "unicode/utf8.acceptRanges"], apart := false, laid := [("unicode/utf8.acceptRanges", laid_unicode_utf8_acceptRanges), ("unicode/utf8.first", laid_unicode_utf8_first)], narrowed := true }
def TalkUnlikeUptoSaid : Prop := talkUnlikeUptoRow.holds Tryd.pinned (OpenSpec.upto talkUnlikeSpec)

end Rows
end Go.Proofs.YtfocilpnbiciaaaDoor
