/-
  DERIVED. GIVEN WITH THE SEED: THE CARDS: each row of YtajhihpaccggdaaDoorRows.lean that lists a variable, with what it lists TIED to the program's text (the seventh form; the later family's looks); each row that meets fmt, with fmt's text TOLD by the authors' own Lean function (tested against real Go, not proved from fmt's source: count such statements apart). THE CARD IS WHAT COUNTS. Prove the row's statement (the work); the ties are given (YtajhihpaccggdaaDoorTie.lean); close each card by the builder's one call (the guide's Derived/Test/ToyasCard.lean, 'card_holds'). Laid BY PROGRAM, IN A SANDBOX (cutbox-door.mjs). By AI agents, Wed Nov 11 2026. No macro, syntax, notation, axiom, sorry.
-/
import Derived.Test.YtajhihpaccggdaaDoorRows
import GoSem.ClaimSeven
namespace Go.Proofs.YtajhihpaccggdaaDoor
namespace Rows

/-- THE TIED CARD OF 'grapevinelaw12.TreeScript'. -/
def treeScriptCard : Claim7 := { stood := { row := treeScriptRow, standIns := [], harness := (true, "645ddc48ddd16182539751192bbb41ebb1c542e6d97883e4672bbde267aa9b7f"), looks := true }, kinds := [], alts := [], laidByText := true, laidKinds := [.data, .pinned], laidTests := true, laidLooks := .later }
def TreeScriptCardSaid : Prop := Claim7.holds Tryd.pinned (.plain (OpenSpec.ofChange treeScriptSpec)) treeScriptCard

/-- THE TIED CARD OF 'grapevinelaw12.TreeAnew'. -/
def treeAnewCard : Claim7 := { stood := { row := treeAnewRow, standIns := [], harness := (true, "645ddc48ddd16182539751192bbb41ebb1c542e6d97883e4672bbde267aa9b7f"), looks := true }, kinds := [], alts := [], laidByText := true, laidKinds := [.data, .pinned], laidTests := true, laidLooks := .later }
def TreeAnewCardSaid : Prop := Claim7.holds Tryd.pinned (.plain (OpenSpec.ofChange treeAnewSpec)) treeAnewCard

/-- THE TIED CARD OF 'grapevinelaw12.TreeParts'. -/
def treePartsCard : Claim7 := { stood := { row := treePartsRow, standIns := [], harness := (true, "645ddc48ddd16182539751192bbb41ebb1c542e6d97883e4672bbde267aa9b7f"), looks := true }, kinds := [], alts := [], laidByText := true, laidKinds := [.data, .pinned], laidTests := true, laidLooks := .later }
def TreePartsCardSaid : Prop := Claim7.holds Tryd.pinned (.plain (OpenSpec.ofChange treePartsSpec)) treePartsCard

/-- THE TIED CARD OF 'grapevinelaw12.TreeOrigins'. -/
def treeOriginsCard : Claim7 := { stood := { row := treeOriginsRow, standIns := [], harness := (true, "645ddc48ddd16182539751192bbb41ebb1c542e6d97883e4672bbde267aa9b7f"), looks := true }, kinds := [], alts := [], laidByText := true, laidKinds := [.data, .pinned], laidTests := true, laidLooks := .later }
def TreeOriginsCardSaid : Prop := Claim7.holds Tryd.pinned (.plain (OpenSpec.ofChange treeOriginsSpec)) treeOriginsCard

/-- THE TIED CARD OF 'grapevinelaw19.StateWhole'. -/
def stateWholeCard : Claim7 := { stood := { row := stateWholeRow, standIns := [], harness := (true, "645ddc48ddd16182539751192bbb41ebb1c542e6d97883e4672bbde267aa9b7f"), looks := true }, kinds := [], alts := [], laidByText := true, laidKinds := [.data, .pinned], laidTests := true, laidLooks := .later }
def StateWholeCardSaid : Prop := Claim7.holds Tryd.pinned (.plain (OpenSpec.ofChange stateWholeSpec)) stateWholeCard

/-- THE TIED CARD OF 'grapevinelaw19.StateRaised'. -/
def stateRaisedCard : Claim7 := { stood := { row := stateRaisedRow, standIns := [], harness := (true, "645ddc48ddd16182539751192bbb41ebb1c542e6d97883e4672bbde267aa9b7f"), looks := true }, kinds := [], alts := [], laidByText := true, laidKinds := [.data, .pinned], laidTests := true, laidLooks := .later }
def StateRaisedCardSaid : Prop := Claim7.holds Tryd.pinned (.plain (OpenSpec.ofChange stateRaisedSpec)) stateRaisedCard

/-- THE TIED CARD OF 'grapevinelaw19.StateOrigins'. -/
def stateOriginsCard : Claim7 := { stood := { row := stateOriginsRow, standIns := [], harness := (true, "645ddc48ddd16182539751192bbb41ebb1c542e6d97883e4672bbde267aa9b7f"), looks := true }, kinds := [], alts := [], laidByText := true, laidKinds := [.data, .pinned], laidTests := true, laidLooks := .later }
def StateOriginsCardSaid : Prop := Claim7.holds Tryd.pinned (.plain (OpenSpec.ofChange stateOriginsSpec)) stateOriginsCard

/-- THE TIED CARD OF 'grapevinelaw19.StateJoins'. -/
def stateJoinsCard : Claim7 := { stood := { row := stateJoinsRow, standIns := [], harness := (true, "645ddc48ddd16182539751192bbb41ebb1c542e6d97883e4672bbde267aa9b7f"), looks := true }, kinds := [], alts := [], laidByText := true, laidKinds := [.data, .pinned], laidTests := true, laidLooks := .later }
def StateJoinsCardSaid : Prop := Claim7.holds Tryd.pinned (.plain (OpenSpec.ofChange stateJoinsSpec)) stateJoinsCard

/-- THE TIED CARD OF 'grapevinelaw19.StateLacks'. -/
def stateLacksCard : Claim7 := { stood := { row := stateLacksRow, standIns := [], harness := (true, "645ddc48ddd16182539751192bbb41ebb1c542e6d97883e4672bbde267aa9b7f"), looks := true }, kinds := [], alts := [], laidByText := true, laidKinds := [.data, .pinned], laidTests := true, laidLooks := .later }
def StateLacksCardSaid : Prop := Claim7.holds Tryd.pinned (.plain (OpenSpec.ofChange stateLacksSpec)) stateLacksCard

/-- THE SECOND FORM's CARD OF 'grapevinelaw12.TreeScript'. -/
def treeScriptUptoCard : Claim7 := { stood := { row := treeScriptUptoRow, standIns := [], harness := (true, "645ddc48ddd16182539751192bbb41ebb1c542e6d97883e4672bbde267aa9b7f"), looks := true }, kinds := [], alts := [], laidByText := true, laidKinds := [.data, .pinned], laidTests := true, laidLooks := .later }
def TreeScriptUptoCardSaid : Prop := Claim7.holds Tryd.pinned (.plain (OpenSpec.upto treeScriptSpec)) treeScriptUptoCard

/-- THE SECOND FORM's CARD OF 'grapevinelaw12.TreeAnew'. -/
def treeAnewUptoCard : Claim7 := { stood := { row := treeAnewUptoRow, standIns := [], harness := (true, "645ddc48ddd16182539751192bbb41ebb1c542e6d97883e4672bbde267aa9b7f"), looks := true }, kinds := [], alts := [], laidByText := true, laidKinds := [.data, .pinned], laidTests := true, laidLooks := .later }
def TreeAnewUptoCardSaid : Prop := Claim7.holds Tryd.pinned (.plain (OpenSpec.upto treeAnewSpec)) treeAnewUptoCard

/-- THE SECOND FORM's CARD OF 'grapevinelaw12.TreeParts'. -/
def treePartsUptoCard : Claim7 := { stood := { row := treePartsUptoRow, standIns := [], harness := (true, "645ddc48ddd16182539751192bbb41ebb1c542e6d97883e4672bbde267aa9b7f"), looks := true }, kinds := [], alts := [], laidByText := true, laidKinds := [.data, .pinned], laidTests := true, laidLooks := .later }
def TreePartsUptoCardSaid : Prop := Claim7.holds Tryd.pinned (.plain (OpenSpec.upto treePartsSpec)) treePartsUptoCard

/-- THE SECOND FORM's CARD OF 'grapevinelaw12.TreeOrigins'. -/
def treeOriginsUptoCard : Claim7 := { stood := { row := treeOriginsUptoRow, standIns := [], harness := (true, "645ddc48ddd16182539751192bbb41ebb1c542e6d97883e4672bbde267aa9b7f"), looks := true }, kinds := [], alts := [], laidByText := true, laidKinds := [.data, .pinned], laidTests := true, laidLooks := .later }
def TreeOriginsUptoCardSaid : Prop := Claim7.holds Tryd.pinned (.plain (OpenSpec.upto treeOriginsSpec)) treeOriginsUptoCard

/-- THE SECOND FORM's CARD OF 'grapevinelaw19.StateWhole'. -/
def stateWholeUptoCard : Claim7 := { stood := { row := stateWholeUptoRow, standIns := [], harness := (true, "645ddc48ddd16182539751192bbb41ebb1c542e6d97883e4672bbde267aa9b7f"), looks := true }, kinds := [], alts := [], laidByText := true, laidKinds := [.data, .pinned], laidTests := true, laidLooks := .later }
def StateWholeUptoCardSaid : Prop := Claim7.holds Tryd.pinned (.plain (OpenSpec.upto stateWholeSpec)) stateWholeUptoCard

/-- THE SECOND FORM's CARD OF 'grapevinelaw19.StateRaised'. -/
def stateRaisedUptoCard : Claim7 := { stood := { row := stateRaisedUptoRow, standIns := [], harness := (true, "645ddc48ddd16182539751192bbb41ebb1c542e6d97883e4672bbde267aa9b7f"), looks := true }, kinds := [], alts := [], laidByText := true, laidKinds := [.data, .pinned], laidTests := true, laidLooks := .later }
def StateRaisedUptoCardSaid : Prop := Claim7.holds Tryd.pinned (.plain (OpenSpec.upto stateRaisedSpec)) stateRaisedUptoCard

/-- THE SECOND FORM's CARD OF 'grapevinelaw19.StateOrigins'. -/
def stateOriginsUptoCard : Claim7 := { stood := { row := stateOriginsUptoRow, standIns := [], harness := (true, "645ddc48ddd16182539751192bbb41ebb1c542e6d97883e4672bbde267aa9b7f"), looks := true }, kinds := [], alts := [], laidByText := true, laidKinds := [.data, .pinned], laidTests := true, laidLooks := .later }
def StateOriginsUptoCardSaid : Prop := Claim7.holds Tryd.pinned (.plain (OpenSpec.upto stateOriginsSpec)) stateOriginsUptoCard

/-- THE SECOND FORM's CARD OF 'grapevinelaw19.StateJoins'. -/
def stateJoinsUptoCard : Claim7 := { stood := { row := stateJoinsUptoRow, standIns := [], harness := (true, "645ddc48ddd16182539751192bbb41ebb1c542e6d97883e4672bbde267aa9b7f"), looks := true }, kinds := [], alts := [], laidByText := true, laidKinds := [.data, .pinned], laidTests := true, laidLooks := .later }
def StateJoinsUptoCardSaid : Prop := Claim7.holds Tryd.pinned (.plain (OpenSpec.upto stateJoinsSpec)) stateJoinsUptoCard

/-- THE SECOND FORM's CARD OF 'grapevinelaw19.StateLacks'. -/
def stateLacksUptoCard : Claim7 := { stood := { row := stateLacksUptoRow, standIns := [], harness := (true, "645ddc48ddd16182539751192bbb41ebb1c542e6d97883e4672bbde267aa9b7f"), looks := true }, kinds := [], alts := [], laidByText := true, laidKinds := [.data, .pinned], laidTests := true, laidLooks := .later }
def StateLacksUptoCardSaid : Prop := Claim7.holds Tryd.pinned (.plain (OpenSpec.upto stateLacksSpec)) stateLacksUptoCard
end Rows
end Go.Proofs.YtajhihpaccggdaaDoor
