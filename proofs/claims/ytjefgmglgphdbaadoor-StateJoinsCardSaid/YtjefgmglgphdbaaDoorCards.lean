/-
  DERIVED. GIVEN WITH THE SEED: THE CARDS: each row of YtjefgmglgphdbaaDoorRows.lean that lists a variable, with what it lists TIED to the program's text (the seventh form; the later family's looks); each row that meets fmt, with fmt's text TOLD by the authors' own Lean function (tested against real Go, not proved from fmt's source: count such statements apart). THE CARD IS WHAT COUNTS. Prove the row's statement (the work); the ties are given (YtjefgmglgphdbaaDoorTie.lean); close each card by the builder's one call (the guide's Derived/Test/ToyasCard.lean, 'card_holds'). Laid BY PROGRAM, IN A SANDBOX (cutbox-door.mjs). By AI agents, Wed Nov 11 2026. No macro, syntax, notation, axiom, sorry.
-/
import Derived.Test.YtjefgmglgphdbaaDoorRows
import GoSem.ClaimSeven
namespace Go.Proofs.YtjefgmglgphdbaaDoor
namespace Rows

/-- THE TIED CARD OF 'grapevinelaw19.StateWhole'. -/
def stateWholeCard : Claim7 := { stood := { row := stateWholeRow, standIns := [], harness := (true, "268b5a1723fa1d850988520c4fe7122f67dca2669e4f719427337d9826042377"), looks := true }, kinds := [], alts := [], laidByText := true, laidKinds := [.data, .pinned], laidTests := true, laidLooks := .later }
def StateWholeCardSaid : Prop := Claim7.holds Tryd.pinned (.plain (OpenSpec.ofChange stateWholeSpec)) stateWholeCard

/-- THE TIED CARD OF 'grapevinelaw19.StateRaised'. -/
def stateRaisedCard : Claim7 := { stood := { row := stateRaisedRow, standIns := [], harness := (true, "268b5a1723fa1d850988520c4fe7122f67dca2669e4f719427337d9826042377"), looks := true }, kinds := [], alts := [], laidByText := true, laidKinds := [.data, .pinned], laidTests := true, laidLooks := .later }
def StateRaisedCardSaid : Prop := Claim7.holds Tryd.pinned (.plain (OpenSpec.ofChange stateRaisedSpec)) stateRaisedCard

/-- THE TIED CARD OF 'grapevinelaw19.StateOrigins'. -/
def stateOriginsCard : Claim7 := { stood := { row := stateOriginsRow, standIns := [], harness := (true, "268b5a1723fa1d850988520c4fe7122f67dca2669e4f719427337d9826042377"), looks := true }, kinds := [], alts := [], laidByText := true, laidKinds := [.data, .pinned], laidTests := true, laidLooks := .later }
def StateOriginsCardSaid : Prop := Claim7.holds Tryd.pinned (.plain (OpenSpec.ofChange stateOriginsSpec)) stateOriginsCard

/-- THE TIED CARD OF 'grapevinelaw19.StateJoins'. -/
def stateJoinsCard : Claim7 := { stood := { row := stateJoinsRow, standIns := [], harness := (true, "268b5a1723fa1d850988520c4fe7122f67dca2669e4f719427337d9826042377"), looks := true }, kinds := [], alts := [], laidByText := true, laidKinds := [.data, .pinned], laidTests := true, laidLooks := .later }
def StateJoinsCardSaid : Prop := Claim7.holds Tryd.pinned (.plain (OpenSpec.ofChange stateJoinsSpec)) stateJoinsCard

/-- THE TIED CARD OF 'grapevinelaw19.StateLacks'. -/
def stateLacksCard : Claim7 := { stood := { row := stateLacksRow, standIns := [], harness := (true, "268b5a1723fa1d850988520c4fe7122f67dca2669e4f719427337d9826042377"), looks := true }, kinds := [], alts := [], laidByText := true, laidKinds := [.data, .pinned], laidTests := true, laidLooks := .later }
def StateLacksCardSaid : Prop := Claim7.holds Tryd.pinned (.plain (OpenSpec.ofChange stateLacksSpec)) stateLacksCard

/-- THE SECOND FORM's CARD OF 'grapevinelaw19.StateWhole'. -/
def stateWholeUptoCard : Claim7 := { stood := { row := stateWholeUptoRow, standIns := [], harness := (true, "268b5a1723fa1d850988520c4fe7122f67dca2669e4f719427337d9826042377"), looks := true }, kinds := [], alts := [], laidByText := true, laidKinds := [.data, .pinned], laidTests := true, laidLooks := .later }
def StateWholeUptoCardSaid : Prop := Claim7.holds Tryd.pinned (.plain (OpenSpec.upto stateWholeSpec)) stateWholeUptoCard

/-- THE SECOND FORM's CARD OF 'grapevinelaw19.StateRaised'. -/
def stateRaisedUptoCard : Claim7 := { stood := { row := stateRaisedUptoRow, standIns := [], harness := (true, "268b5a1723fa1d850988520c4fe7122f67dca2669e4f719427337d9826042377"), looks := true }, kinds := [], alts := [], laidByText := true, laidKinds := [.data, .pinned], laidTests := true, laidLooks := .later }
def StateRaisedUptoCardSaid : Prop := Claim7.holds Tryd.pinned (.plain (OpenSpec.upto stateRaisedSpec)) stateRaisedUptoCard

/-- THE SECOND FORM's CARD OF 'grapevinelaw19.StateOrigins'. -/
def stateOriginsUptoCard : Claim7 := { stood := { row := stateOriginsUptoRow, standIns := [], harness := (true, "268b5a1723fa1d850988520c4fe7122f67dca2669e4f719427337d9826042377"), looks := true }, kinds := [], alts := [], laidByText := true, laidKinds := [.data, .pinned], laidTests := true, laidLooks := .later }
def StateOriginsUptoCardSaid : Prop := Claim7.holds Tryd.pinned (.plain (OpenSpec.upto stateOriginsSpec)) stateOriginsUptoCard

/-- THE SECOND FORM's CARD OF 'grapevinelaw19.StateJoins'. -/
def stateJoinsUptoCard : Claim7 := { stood := { row := stateJoinsUptoRow, standIns := [], harness := (true, "268b5a1723fa1d850988520c4fe7122f67dca2669e4f719427337d9826042377"), looks := true }, kinds := [], alts := [], laidByText := true, laidKinds := [.data, .pinned], laidTests := true, laidLooks := .later }
def StateJoinsUptoCardSaid : Prop := Claim7.holds Tryd.pinned (.plain (OpenSpec.upto stateJoinsSpec)) stateJoinsUptoCard

/-- THE SECOND FORM's CARD OF 'grapevinelaw19.StateLacks'. -/
def stateLacksUptoCard : Claim7 := { stood := { row := stateLacksUptoRow, standIns := [], harness := (true, "268b5a1723fa1d850988520c4fe7122f67dca2669e4f719427337d9826042377"), looks := true }, kinds := [], alts := [], laidByText := true, laidKinds := [.data, .pinned], laidTests := true, laidLooks := .later }
def StateLacksUptoCardSaid : Prop := Claim7.holds Tryd.pinned (.plain (OpenSpec.upto stateLacksSpec)) stateLacksUptoCard
end Rows
end Go.Proofs.YtjefgmglgphdbaaDoor
