/-
  DERIVED. GIVEN WITH THE SEED: THE CARDS: each row of YtjmhhmljldjmjaaDoorRows.lean that lists a variable, with what it lists TIED to the program's text (the seventh form; the later family's looks); each row that meets fmt, with fmt's text TOLD by the authors' own Lean function (tested against real Go, not proved from fmt's source: count such statements apart). THE CARD IS WHAT COUNTS. Prove the row's statement (the work); the ties are given (YtjmhhmljldjmjaaDoorTie.lean); close each card by the builder's one call (the guide's Derived/Test/ToyasCard.lean, 'card_holds'). Laid BY PROGRAM, IN A SANDBOX (cutbox-door.mjs). By AI agents, Wed Nov 11 2026. No macro, syntax, notation, axiom, sorry.
-/
import Derived.Test.YtjmhhmljldjmjaaDoorRows
import GoSem.ClaimSeven
namespace Go.Proofs.YtjmhhmljldjmjaaDoor
namespace Rows

/-- THE TIED CARD OF 'grapevinelaw4.RecordLays'. -/
def recordLaysCard : Claim7 := { stood := { row := recordLaysRow, standIns := [], harness := (true, "89762376a40f45249b109ebb6d5187328a4e4b27c6851efefbf97ff81e4550fb"), looks := false }, kinds := [], alts := [], laidByText := true, laidKinds := [.data, .pinned], laidTests := true, laidLooks := .later }
def RecordLaysCardSaid : Prop := Claim7.holds Tryd.pinned (.plain (OpenSpec.ofChange recordLaysSpec)) recordLaysCard

/-- THE TIED CARD OF 'grapevinelaw4.RecordReads'. -/
def recordReadsCard : Claim7 := { stood := { row := recordReadsRow, standIns := [], harness := (true, "89762376a40f45249b109ebb6d5187328a4e4b27c6851efefbf97ff81e4550fb"), looks := false }, kinds := [], alts := [], laidByText := true, laidKinds := [.data, .pinned], laidTests := true, laidLooks := .later }
def RecordReadsCardSaid : Prop := Claim7.holds Tryd.pinned (.plain (OpenSpec.ofChange recordReadsSpec)) recordReadsCard

/-- THE TIED CARD OF 'grapevinelaw4.RecordBack'. -/
def recordBackCard : Claim7 := { stood := { row := recordBackRow, standIns := [], harness := (true, "89762376a40f45249b109ebb6d5187328a4e4b27c6851efefbf97ff81e4550fb"), looks := false }, kinds := [], alts := [], laidByText := true, laidKinds := [.data, .pinned], laidTests := true, laidLooks := .later }
def RecordBackCardSaid : Prop := Claim7.holds Tryd.pinned (.plain (OpenSpec.ofChange recordBackSpec)) recordBackCard

/-- THE TIED CARD OF 'grapevinelaw4.RecordSizes'. -/
def recordSizesCard : Claim7 := { stood := { row := recordSizesRow, standIns := [], harness := (true, "89762376a40f45249b109ebb6d5187328a4e4b27c6851efefbf97ff81e4550fb"), looks := false }, kinds := [], alts := [], laidByText := true, laidKinds := [.data, .pinned], laidTests := true, laidLooks := .later }
def RecordSizesCardSaid : Prop := Claim7.holds Tryd.pinned (.plain (OpenSpec.ofChange recordSizesSpec)) recordSizesCard

/-- THE TIED CARD OF 'grapevinelaw4.RecordRows'. -/
def recordRowsCard : Claim7 := { stood := { row := recordRowsRow, standIns := [], harness := (true, "89762376a40f45249b109ebb6d5187328a4e4b27c6851efefbf97ff81e4550fb"), looks := false }, kinds := [], alts := [], laidByText := true, laidKinds := [.data, .pinned], laidTests := true, laidLooks := .later }
def RecordRowsCardSaid : Prop := Claim7.holds Tryd.pinned (.plain (OpenSpec.ofChange recordRowsSpec)) recordRowsCard

/-- THE TIED CARD OF 'grapevinelaw4.RecordTells'. -/
def recordTellsCard : Claim7 := { stood := { row := recordTellsRow, standIns := [], harness := (true, "89762376a40f45249b109ebb6d5187328a4e4b27c6851efefbf97ff81e4550fb"), looks := false }, kinds := [], alts := [], laidByText := true, laidKinds := [.data, .pinned], laidTests := true, laidLooks := .later }
def RecordTellsCardSaid : Prop := Claim7.holds Tryd.pinned (.plain (OpenSpec.ofChange recordTellsSpec)) recordTellsCard

/-- THE TIED CARD OF 'grapevinelaw4.RecordOrder'. -/
def recordOrderCard : Claim7 := { stood := { row := recordOrderRow, standIns := [], harness := (true, "89762376a40f45249b109ebb6d5187328a4e4b27c6851efefbf97ff81e4550fb"), looks := false }, kinds := [], alts := [], laidByText := true, laidKinds := [.data, .pinned], laidTests := true, laidLooks := .later }
def RecordOrderCardSaid : Prop := Claim7.holds Tryd.pinned (.plain (OpenSpec.ofChange recordOrderSpec)) recordOrderCard

/-- THE TIED CARD OF 'grapevinelaw1.TokensTell'. -/
def tokensTellCard : Claim7 := { stood := { row := tokensTellRow, standIns := [], harness := (true, "89762376a40f45249b109ebb6d5187328a4e4b27c6851efefbf97ff81e4550fb"), looks := false }, kinds := [], alts := [], laidByText := true, laidKinds := [.data, .data, .pinned, .pinned, .pinned, .pinned], laidTests := true, laidLooks := .later }
def TokensTellCardSaid : Prop := Claim7.holds Tryd.pinned (.plain (OpenSpec.ofChange tokensTellSpec)) tokensTellCard

/-- THE TIED CARD OF 'grapevinelaw1.TokensJoin'. -/
def tokensJoinCard : Claim7 := { stood := { row := tokensJoinRow, standIns := [], harness := (true, "89762376a40f45249b109ebb6d5187328a4e4b27c6851efefbf97ff81e4550fb"), looks := false }, kinds := [], alts := [], laidByText := true, laidKinds := [.data, .data, .pinned, .pinned, .pinned, .pinned], laidTests := true, laidLooks := .later }
def TokensJoinCardSaid : Prop := Claim7.holds Tryd.pinned (.plain (OpenSpec.ofChange tokensJoinSpec)) tokensJoinCard

/-- THE TIED CARD OF 'grapevinelaw1.TokensOnes'. -/
def tokensOnesCard : Claim7 := { stood := { row := tokensOnesRow, standIns := [], harness := (true, "89762376a40f45249b109ebb6d5187328a4e4b27c6851efefbf97ff81e4550fb"), looks := false }, kinds := [], alts := [], laidByText := true, laidKinds := [.data, .data, .pinned, .pinned, .pinned, .pinned], laidTests := true, laidLooks := .later }
def TokensOnesCardSaid : Prop := Claim7.holds Tryd.pinned (.plain (OpenSpec.ofChange tokensOnesSpec)) tokensOnesCard

/-- THE SECOND FORM's CARD OF 'grapevinelaw4.RecordLays'. -/
def recordLaysUptoCard : Claim7 := { stood := { row := recordLaysUptoRow, standIns := [], harness := (true, "89762376a40f45249b109ebb6d5187328a4e4b27c6851efefbf97ff81e4550fb"), looks := false }, kinds := [], alts := [], laidByText := true, laidKinds := [.data, .pinned], laidTests := true, laidLooks := .later }
def RecordLaysUptoCardSaid : Prop := Claim7.holds Tryd.pinned (.plain (OpenSpec.upto recordLaysSpec)) recordLaysUptoCard

/-- THE SECOND FORM's CARD OF 'grapevinelaw4.RecordReads'. -/
def recordReadsUptoCard : Claim7 := { stood := { row := recordReadsUptoRow, standIns := [], harness := (true, "89762376a40f45249b109ebb6d5187328a4e4b27c6851efefbf97ff81e4550fb"), looks := false }, kinds := [], alts := [], laidByText := true, laidKinds := [.data, .pinned], laidTests := true, laidLooks := .later }
def RecordReadsUptoCardSaid : Prop := Claim7.holds Tryd.pinned (.plain (OpenSpec.upto recordReadsSpec)) recordReadsUptoCard

/-- THE SECOND FORM's CARD OF 'grapevinelaw4.RecordBack'. -/
def recordBackUptoCard : Claim7 := { stood := { row := recordBackUptoRow, standIns := [], harness := (true, "89762376a40f45249b109ebb6d5187328a4e4b27c6851efefbf97ff81e4550fb"), looks := false }, kinds := [], alts := [], laidByText := true, laidKinds := [.data, .pinned], laidTests := true, laidLooks := .later }
def RecordBackUptoCardSaid : Prop := Claim7.holds Tryd.pinned (.plain (OpenSpec.upto recordBackSpec)) recordBackUptoCard

/-- THE SECOND FORM's CARD OF 'grapevinelaw4.RecordSizes'. -/
def recordSizesUptoCard : Claim7 := { stood := { row := recordSizesUptoRow, standIns := [], harness := (true, "89762376a40f45249b109ebb6d5187328a4e4b27c6851efefbf97ff81e4550fb"), looks := false }, kinds := [], alts := [], laidByText := true, laidKinds := [.data, .pinned], laidTests := true, laidLooks := .later }
def RecordSizesUptoCardSaid : Prop := Claim7.holds Tryd.pinned (.plain (OpenSpec.upto recordSizesSpec)) recordSizesUptoCard

/-- THE SECOND FORM's CARD OF 'grapevinelaw4.RecordRows'. -/
def recordRowsUptoCard : Claim7 := { stood := { row := recordRowsUptoRow, standIns := [], harness := (true, "89762376a40f45249b109ebb6d5187328a4e4b27c6851efefbf97ff81e4550fb"), looks := false }, kinds := [], alts := [], laidByText := true, laidKinds := [.data, .pinned], laidTests := true, laidLooks := .later }
def RecordRowsUptoCardSaid : Prop := Claim7.holds Tryd.pinned (.plain (OpenSpec.upto recordRowsSpec)) recordRowsUptoCard

/-- THE SECOND FORM's CARD OF 'grapevinelaw4.RecordTells'. -/
def recordTellsUptoCard : Claim7 := { stood := { row := recordTellsUptoRow, standIns := [], harness := (true, "89762376a40f45249b109ebb6d5187328a4e4b27c6851efefbf97ff81e4550fb"), looks := false }, kinds := [], alts := [], laidByText := true, laidKinds := [.data, .pinned], laidTests := true, laidLooks := .later }
def RecordTellsUptoCardSaid : Prop := Claim7.holds Tryd.pinned (.plain (OpenSpec.upto recordTellsSpec)) recordTellsUptoCard

/-- THE SECOND FORM's CARD OF 'grapevinelaw4.RecordOrder'. -/
def recordOrderUptoCard : Claim7 := { stood := { row := recordOrderUptoRow, standIns := [], harness := (true, "89762376a40f45249b109ebb6d5187328a4e4b27c6851efefbf97ff81e4550fb"), looks := false }, kinds := [], alts := [], laidByText := true, laidKinds := [.data, .pinned], laidTests := true, laidLooks := .later }
def RecordOrderUptoCardSaid : Prop := Claim7.holds Tryd.pinned (.plain (OpenSpec.upto recordOrderSpec)) recordOrderUptoCard

/-- THE SECOND FORM's CARD OF 'grapevinelaw1.TokensTell'. -/
def tokensTellUptoCard : Claim7 := { stood := { row := tokensTellUptoRow, standIns := [], harness := (true, "89762376a40f45249b109ebb6d5187328a4e4b27c6851efefbf97ff81e4550fb"), looks := false }, kinds := [], alts := [], laidByText := true, laidKinds := [.data, .data, .pinned, .pinned, .pinned, .pinned], laidTests := true, laidLooks := .later }
def TokensTellUptoCardSaid : Prop := Claim7.holds Tryd.pinned (.plain (OpenSpec.upto tokensTellSpec)) tokensTellUptoCard

/-- THE SECOND FORM's CARD OF 'grapevinelaw1.TokensJoin'. -/
def tokensJoinUptoCard : Claim7 := { stood := { row := tokensJoinUptoRow, standIns := [], harness := (true, "89762376a40f45249b109ebb6d5187328a4e4b27c6851efefbf97ff81e4550fb"), looks := false }, kinds := [], alts := [], laidByText := true, laidKinds := [.data, .data, .pinned, .pinned, .pinned, .pinned], laidTests := true, laidLooks := .later }
def TokensJoinUptoCardSaid : Prop := Claim7.holds Tryd.pinned (.plain (OpenSpec.upto tokensJoinSpec)) tokensJoinUptoCard

/-- THE SECOND FORM's CARD OF 'grapevinelaw1.TokensOnes'. -/
def tokensOnesUptoCard : Claim7 := { stood := { row := tokensOnesUptoRow, standIns := [], harness := (true, "89762376a40f45249b109ebb6d5187328a4e4b27c6851efefbf97ff81e4550fb"), looks := false }, kinds := [], alts := [], laidByText := true, laidKinds := [.data, .data, .pinned, .pinned, .pinned, .pinned], laidTests := true, laidLooks := .later }
def TokensOnesUptoCardSaid : Prop := Claim7.holds Tryd.pinned (.plain (OpenSpec.upto tokensOnesSpec)) tokensOnesUptoCard
end Rows
end Go.Proofs.YtjmhhmljldjmjaaDoor
