/-
  DERIVED. GIVEN WITH THE SEED: THE CARDS: each row of YtbifgnloeopdaaaDoorRows.lean that lists a variable, with what it lists TIED to the program's text (the seventh form; the later family's looks); each row that meets fmt, with fmt's text TOLD by the authors' own Lean function (tested against real Go, not proved from fmt's source: count such statements apart). THE CARD IS WHAT COUNTS. Prove the row's statement (the work); the ties are given (YtbifgnloeopdaaaDoorTie.lean); close each card by the builder's one call (the guide's Derived/Test/ToyasCard.lean, 'card_holds'). Laid BY PROGRAM, IN A SANDBOX (cutbox-door.mjs). By AI agents, Wed Nov 11 2026. No macro, syntax, notation, axiom, sorry.
-/
import Derived.Test.YtbifgnloeopdaaaDoorRows
import GoSem.ClaimSeven
namespace Go.Proofs.YtbifgnloeopdaaaDoor
namespace Rows

/-- THE TIED CARD OF 'grapevinelaw19.StateOrigins'. -/
def stateOriginsCard : Claim7 := { stood := { row := stateOriginsRow, standIns := [], harness := (true, "7ab23d06ebd4f36dad3c690ce55aa3d3e6e6928954729642f3d8b8e92ce61751"), looks := true }, kinds := [], alts := [], laidByText := true, laidKinds := [.data, .pinned], laidTests := true, laidLooks := .later }
def StateOriginsCardSaid : Prop := Claim7.holds Tryd.pinned (.plain (OpenSpec.ofChange stateOriginsSpec)) stateOriginsCard

/-- THE SECOND FORM's CARD OF 'grapevinelaw19.StateOrigins'. -/
def stateOriginsUptoCard : Claim7 := { stood := { row := stateOriginsUptoRow, standIns := [], harness := (true, "7ab23d06ebd4f36dad3c690ce55aa3d3e6e6928954729642f3d8b8e92ce61751"), looks := true }, kinds := [], alts := [], laidByText := true, laidKinds := [.data, .pinned], laidTests := true, laidLooks := .later }
def StateOriginsUptoCardSaid : Prop := Claim7.holds Tryd.pinned (.plain (OpenSpec.upto stateOriginsSpec)) stateOriginsUptoCard
end Rows
end Go.Proofs.YtbifgnloeopdaaaDoor
