/-
  DERIVED. GIVEN WITH THE SEED: THE CARDS: each row of YtcapnncebfgcfaaGreatDoorRows.lean that lists a variable, with what it lists TIED to the program's text (the seventh form; the later family's looks); each row that meets fmt, with fmt's text TOLD by the authors' own Lean function (tested against real Go, not proved from fmt's source: count such statements apart). THE CARD IS WHAT COUNTS. Prove the row's statement (the work); the ties are given (YtcapnncebfgcfaaGreatDoorTie.lean); close each card by the builder's one call (the guide's Derived/Test/ToyasCard.lean, 'card_holds'). Laid BY PROGRAM, IN A SANDBOX (cutbox-door.mjs). By AI agents, Wed Nov 11 2026. No macro, syntax, notation, axiom, sorry.
-/
import Derived.Test.YtcapnncebfgcfaaGreatDoorRows
import GoSem.ClaimSeven
namespace Go.Proofs.YtcapnncebfgcfaaGreatDoor
namespace Rows

/-- THE TIED CARD OF 'grapevinelaw19.StateNone'. -/
def stateNoneCard : Claim7 := { stood := { row := stateNoneRow, standIns := [], harness := (true, "0a67517326bfa75356b221702c1d0610df310daf6ea4057dea5e078159ac5c11"), looks := true }, kinds := [], alts := [], laidByText := true, laidKinds := [.data, .data, .data, .data, .data, .pinned, .pinned, .pinned, .pinned], laidTests := true, laidLooks := .later }
def StateNoneCardSaid : Prop := Claim7.holds Tryz.pinned (.plain (OpenSpec.ofChange stateNoneSpec)) stateNoneCard

/-- THE SECOND FORM's CARD OF 'grapevinelaw19.StateNone'. -/
def stateNoneUptoCard : Claim7 := { stood := { row := stateNoneUptoRow, standIns := [], harness := (true, "0a67517326bfa75356b221702c1d0610df310daf6ea4057dea5e078159ac5c11"), looks := true }, kinds := [], alts := [], laidByText := true, laidKinds := [.data, .data, .data, .data, .data, .pinned, .pinned, .pinned, .pinned], laidTests := true, laidLooks := .later }
def StateNoneUptoCardSaid : Prop := Claim7.holds Tryz.pinned (.plain (OpenSpec.upto stateNoneSpec)) stateNoneUptoCard
end Rows
end Go.Proofs.YtcapnncebfgcfaaGreatDoor
