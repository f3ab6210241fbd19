/-
  DERIVED. GIVEN WITH THE SEED: THE CARDS: each row of YtfocilpnbiciaaaDoorRows.lean that lists a variable, with what it lists TIED to the program's text (the seventh form; the later family's looks); each row that meets fmt, with fmt's text TOLD by the authors' own Lean function (tested against real Go, not proved from fmt's source: count such statements apart). THE CARD IS WHAT COUNTS. Prove the row's statement (the work); the ties are given (YtfocilpnbiciaaaDoorTie.lean); close each card by the builder's one call (the guide's Derived/Test/ToyasCard.lean, 'card_holds'). Laid BY PROGRAM, IN A SANDBOX (cutbox-door.mjs). By AI agents, Wed Nov 11 2026. No macro, syntax, notation, axiom, sorry.
-/
import Derived.Test.YtfocilpnbiciaaaDoorRows
import GoSem.ClaimSeven
namespace Go.Proofs.YtfocilpnbiciaaaDoor
namespace Rows

/-- THE TIED CARD OF 'grapevinelaw8.SegmentReads'. -/
def segmentReadsCard : Claim7 := { stood := { row := segmentReadsRow, standIns := [], harness := (true, "82a483a171e6342dd9b53beacbce4a2b5c235689f713ed2aac62c19d076ec4de"), looks := false }, kinds := [], alts := [], laidByText := true, laidKinds := [.data, .pinned], laidTests := true, laidLooks := .later }
def SegmentReadsCardSaid : Prop := Claim7.holds Tryd.pinned (.plain (OpenSpec.ofChange segmentReadsSpec)) segmentReadsCard

/-- THE TIED CARD OF 'grapevinelaw8.SegmentTorn'. -/
def segmentTornCard : Claim7 := { stood := { row := segmentTornRow, standIns := [], harness := (true, "82a483a171e6342dd9b53beacbce4a2b5c235689f713ed2aac62c19d076ec4de"), looks := false }, kinds := [], alts := [], laidByText := true, laidKinds := [.data, .pinned], laidTests := true, laidLooks := .later }
def SegmentTornCardSaid : Prop := Claim7.holds Tryd.pinned (.plain (OpenSpec.ofChange segmentTornSpec)) segmentTornCard

/-- THE TIED CARD OF 'grapevinelaw8.SegmentUnlike'. -/
def segmentUnlikeCard : Claim7 := { stood := { row := segmentUnlikeRow, standIns := [], harness := (true, "82a483a171e6342dd9b53beacbce4a2b5c235689f713ed2aac62c19d076ec4de"), looks := false }, kinds := [], alts := [], laidByText := true, laidKinds := [.data, .pinned], laidTests := true, laidLooks := .later }
def SegmentUnlikeCardSaid : Prop := Claim7.holds Tryd.pinned (.plain (OpenSpec.ofChange segmentUnlikeSpec)) segmentUnlikeCard

/-- THE TIED CARD OF 'grapevinelaw20.TalkLays'. -/
def talkLaysCard : Claim7 := { stood := { row := talkLaysRow, standIns := [], harness := (true, "82a483a171e6342dd9b53beacbce4a2b5c235689f713ed2aac62c19d076ec4de"), looks := false }, kinds := [], alts := [], laidByText := true, laidKinds := [.data, .pinned], laidTests := true, laidLooks := .later }
def TalkLaysCardSaid : Prop := Claim7.holds Tryd.pinned (.plain (OpenSpec.ofChange talkLaysSpec)) talkLaysCard

/-- THE TIED CARD OF 'grapevinelaw20.TalkReads'. -/
def talkReadsCard : Claim7 := { stood := { row := talkReadsRow, standIns := [], harness := (true, "82a483a171e6342dd9b53beacbce4a2b5c235689f713ed2aac62c19d076ec4de"), looks := false }, kinds := [], alts := [], laidByText := true, laidKinds := [.data, .pinned], laidTests := true, laidLooks := .later }
def TalkReadsCardSaid : Prop := Claim7.holds Tryd.pinned (.plain (OpenSpec.ofChange talkReadsSpec)) talkReadsCard

/-- THE TIED CARD OF 'grapevinelaw20.TalkSpoilt'. -/
def talkSpoiltCard : Claim7 := { stood := { row := talkSpoiltRow, standIns := [], harness := (true, "82a483a171e6342dd9b53beacbce4a2b5c235689f713ed2aac62c19d076ec4de"), looks := false }, kinds := [], alts := [], laidByText := true, laidKinds := [.data, .pinned], laidTests := true, laidLooks := .later }
def TalkSpoiltCardSaid : Prop := Claim7.holds Tryd.pinned (.plain (OpenSpec.ofChange talkSpoiltSpec)) talkSpoiltCard

/-- THE TIED CARD OF 'grapevinelaw20.TalkUnlike'. -/
def talkUnlikeCard : Claim7 := { stood := { row := talkUnlikeRow, standIns := [], harness := (true, "82a483a171e6342dd9b53beacbce4a2b5c235689f713ed2aac62c19d076ec4de"), looks := false }, kinds := [], alts := [], laidByText := true, laidKinds := [.data, .pinned], laidTests := true, laidLooks := .later }
def TalkUnlikeCardSaid : Prop := Claim7.holds Tryd.pinned (.plain (OpenSpec.ofChange talkUnlikeSpec)) talkUnlikeCard

/-- THE SECOND FORM's CARD OF 'grapevinelaw8.SegmentReads'. -/
def segmentReadsUptoCard : Claim7 := { stood := { row := segmentReadsUptoRow, standIns := [], harness := (true, "82a483a171e6342dd9b53beacbce4a2b5c235689f713ed2aac62c19d076ec4de"), looks := false }, kinds := [], alts := [], laidByText := true, laidKinds := [.data, .pinned], laidTests := true, laidLooks := .later }
def SegmentReadsUptoCardSaid : Prop := Claim7.holds Tryd.pinned (.plain (OpenSpec.upto segmentReadsSpec)) segmentReadsUptoCard

/-- THE SECOND FORM's CARD OF 'grapevinelaw8.SegmentTorn'. -/
def segmentTornUptoCard : Claim7 := { stood := { row := segmentTornUptoRow, standIns := [], harness := (true, "82a483a171e6342dd9b53beacbce4a2b5c235689f713ed2aac62c19d076ec4de"), looks := false }, kinds := [], alts := [], laidByText := true, laidKinds := [.data, .pinned], laidTests := true, laidLooks := .later }
def SegmentTornUptoCardSaid : Prop := Claim7.holds Tryd.pinned (.plain (OpenSpec.upto segmentTornSpec)) segmentTornUptoCard

/-- THE SECOND FORM's CARD OF 'grapevinelaw8.SegmentUnlike'. -/
def segmentUnlikeUptoCard : Claim7 := { stood := { row := segmentUnlikeUptoRow, standIns := [], harness := (true, "82a483a171e6342dd9b53beacbce4a2b5c235689f713ed2aac62c19d076ec4de"), looks := false }, kinds := [], alts := [], laidByText := true, laidKinds := [.data, .pinned], laidTests := true, laidLooks := .later }
def SegmentUnlikeUptoCardSaid : Prop := Claim7.holds Tryd.pinned (.plain (OpenSpec.upto segmentUnlikeSpec)) segmentUnlikeUptoCard

/-- THE SECOND FORM's CARD OF 'grapevinelaw20.TalkLays'. -/
def talkLaysUptoCard : Claim7 := { stood := { row := talkLaysUptoRow, standIns := [], harness := (true, "82a483a171e6342dd9b53beacbce4a2b5c235689f713ed2aac62c19d076ec4de"), looks := false }, kinds := [], alts := [], laidByText := true, laidKinds := [.data, .pinned], laidTests := true, laidLooks := .later }
def TalkLaysUptoCardSaid : Prop := Claim7.holds Tryd.pinned (.plain (OpenSpec.upto talkLaysSpec)) talkLaysUptoCard

/-- THE SECOND FORM's CARD OF 'grapevinelaw20.TalkReads'. -/
def talkReadsUptoCard : Claim7 := { stood := { row := talkReadsUptoRow, standIns := [], harness := (true, "82a483a171e6342dd9b53beacbce4a2b5c235689f713ed2aac62c19d076ec4de"), looks := false }, kinds := [], alts := [], laidByText := true, laidKinds := [.data, .pinned], laidTests := true, laidLooks := .later }
def TalkReadsUptoCardSaid : Prop := Claim7.holds Tryd.pinned (.plain (OpenSpec.upto talkReadsSpec)) talkReadsUptoCard

/-- THE SECOND FORM's CARD OF 'grapevinelaw20.TalkSpoilt'. -/
def talkSpoiltUptoCard : Claim7 := { stood := { row := talkSpoiltUptoRow, standIns := [], harness := (true, "82a483a171e6342dd9b53beacbce4a2b5c235689f713ed2aac62c19d076ec4de"), looks := false }, kinds := [], alts := [], laidByText := true, laidKinds := [.data, .pinned], laidTests := true, laidLooks := .later }
def TalkSpoiltUptoCardSaid : Prop := Claim7.holds Tryd.pinned (.plain (OpenSpec.upto talkSpoiltSpec)) talkSpoiltUptoCard

/-- THE SECOND FORM's CARD OF 'grapevinelaw20.TalkUnlike'. -/
def talkUnlikeUptoCard : Claim7 := { stood := { row := talkUnlikeUptoRow, standIns := [], harness := (true, "82a483a171e6342dd9b53beacbce4a2b5c235689f713ed2aac62c19d076ec4de"), looks := false }, kinds := [], alts := [], laidByText := true, laidKinds := [.data, .pinned], laidTests := true, laidLooks := .later }
def TalkUnlikeUptoCardSaid : Prop := Claim7.holds Tryd.pinned (.plain (OpenSpec.upto talkUnlikeSpec)) talkUnlikeUptoCard
end Rows
end Go.Proofs.YtfocilpnbiciaaaDoor
