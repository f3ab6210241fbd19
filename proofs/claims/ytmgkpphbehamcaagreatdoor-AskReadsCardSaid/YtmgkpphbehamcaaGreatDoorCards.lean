/-
  DERIVED. GIVEN WITH THE SEED: THE CARDS: each row of YtmgkpphbehamcaaGreatDoorRows.lean that lists a variable, with what it lists TIED to the program's text (the seventh form; the later family's looks); each row that meets fmt, with fmt's text TOLD by the authors' own Lean function (tested against real Go, not proved from fmt's source: count such statements apart). THE CARD IS WHAT COUNTS. Prove the row's statement (the work); the ties are given (YtmgkpphbehamcaaGreatDoorTie.lean); close each card by the builder's one call (the guide's Derived/Test/ToyasCard.lean, 'card_holds'). Laid BY PROGRAM, IN A SANDBOX (cutbox-door.mjs). By AI agents, Wed Nov 11 2026. No macro, syntax, notation, axiom, sorry.
-/
import Derived.Test.YtmgkpphbehamcaaGreatDoorRows
import GoSem.ClaimSeven
namespace Go.Proofs.YtmgkpphbehamcaaGreatDoor
namespace Rows

/-- THE TIED CARD OF 'grapevinelaw14.AskReads'. -/
def askReadsCard : Claim7 := { stood := { row := askReadsRow, standIns := [], harness := (true, "e63507c4b84cfbff93743d0a7721f21f07faf479c35b660da6caf4e59c03a771"), looks := true }, kinds := [], alts := [], laidByText := true, laidKinds := [.data, .data, .data, .data, .sentinel, .sentinel, .data, .pinned, .pinned, .pinned, .pinned], laidTests := true, laidLooks := .later }
def AskReadsCardSaid : Prop := Claim7.holds Tryz.pinned (.plain (OpenSpec.ofChange askReadsSpec)) askReadsCard

/-- THE TIED CARD OF 'grapevinelaw14.AskBack'. -/
def askBackCard : Claim7 := { stood := { row := askBackRow, standIns := [], harness := (true, "e63507c4b84cfbff93743d0a7721f21f07faf479c35b660da6caf4e59c03a771"), looks := true }, kinds := [], alts := [], laidByText := true, laidKinds := [.data, .data, .data, .data, .sentinel, .sentinel, .data, .pinned, .pinned, .pinned, .pinned], laidTests := true, laidLooks := .later }
def AskBackCardSaid : Prop := Claim7.holds Tryz.pinned (.plain (OpenSpec.ofChange askBackSpec)) askBackCard

/-- THE TIED CARD OF 'grapevinelaw14.AskBrackets'. -/
def askBracketsCard : Claim7 := { stood := { row := askBracketsRow, standIns := [], harness := (true, "e63507c4b84cfbff93743d0a7721f21f07faf479c35b660da6caf4e59c03a771"), looks := true }, kinds := [], alts := [], laidByText := true, laidKinds := [.data, .data, .data, .data, .sentinel, .sentinel, .data, .pinned, .pinned, .pinned, .pinned], laidTests := true, laidLooks := .later }
def AskBracketsCardSaid : Prop := Claim7.holds Tryz.pinned (.plain (OpenSpec.ofChange askBracketsSpec)) askBracketsCard

/-- THE TIED CARD OF 'grapevinelaw14.AskDeeper'. -/
def askDeeperCard : Claim7 := { stood := { row := askDeeperRow, standIns := [], harness := (true, "e63507c4b84cfbff93743d0a7721f21f07faf479c35b660da6caf4e59c03a771"), looks := true }, kinds := [], alts := [], laidByText := true, laidKinds := [.data, .data, .data, .data, .sentinel, .sentinel, .data, .pinned, .pinned, .pinned, .pinned], laidTests := true, laidLooks := .later }
def AskDeeperCardSaid : Prop := Claim7.holds Tryz.pinned (.plain (OpenSpec.ofChange askDeeperSpec)) askDeeperCard

/-- THE TIED CARD OF 'grapevinelaw14.AskJoins'. -/
def askJoinsCard : Claim7 := { stood := { row := askJoinsRow, standIns := [], harness := (true, "e63507c4b84cfbff93743d0a7721f21f07faf479c35b660da6caf4e59c03a771"), looks := true }, kinds := [], alts := [], laidByText := true, laidKinds := [.data, .data, .data, .data, .sentinel, .sentinel, .data, .pinned, .pinned, .pinned, .pinned], laidTests := true, laidLooks := .later }
def AskJoinsCardSaid : Prop := Claim7.holds Tryz.pinned (.plain (OpenSpec.ofChange askJoinsSpec)) askJoinsCard

/-- THE SECOND FORM's CARD OF 'grapevinelaw14.AskReads'. -/
def askReadsUptoCard : Claim7 := { stood := { row := askReadsUptoRow, standIns := [], harness := (true, "e63507c4b84cfbff93743d0a7721f21f07faf479c35b660da6caf4e59c03a771"), looks := true }, kinds := [], alts := [], laidByText := true, laidKinds := [.data, .data, .data, .data, .sentinel, .sentinel, .data, .pinned, .pinned, .pinned, .pinned], laidTests := true, laidLooks := .later }
def AskReadsUptoCardSaid : Prop := Claim7.holds Tryz.pinned (.plain (OpenSpec.upto askReadsSpec)) askReadsUptoCard

/-- THE SECOND FORM's CARD OF 'grapevinelaw14.AskBack'. -/
def askBackUptoCard : Claim7 := { stood := { row := askBackUptoRow, standIns := [], harness := (true, "e63507c4b84cfbff93743d0a7721f21f07faf479c35b660da6caf4e59c03a771"), looks := true }, kinds := [], alts := [], laidByText := true, laidKinds := [.data, .data, .data, .data, .sentinel, .sentinel, .data, .pinned, .pinned, .pinned, .pinned], laidTests := true, laidLooks := .later }
def AskBackUptoCardSaid : Prop := Claim7.holds Tryz.pinned (.plain (OpenSpec.upto askBackSpec)) askBackUptoCard

/-- THE SECOND FORM's CARD OF 'grapevinelaw14.AskBrackets'. -/
def askBracketsUptoCard : Claim7 := { stood := { row := askBracketsUptoRow, standIns := [], harness := (true, "e63507c4b84cfbff93743d0a7721f21f07faf479c35b660da6caf4e59c03a771"), looks := true }, kinds := [], alts := [], laidByText := true, laidKinds := [.data, .data, .data, .data, .sentinel, .sentinel, .data, .pinned, .pinned, .pinned, .pinned], laidTests := true, laidLooks := .later }
def AskBracketsUptoCardSaid : Prop := Claim7.holds Tryz.pinned (.plain (OpenSpec.upto askBracketsSpec)) askBracketsUptoCard

/-- THE SECOND FORM's CARD OF 'grapevinelaw14.AskDeeper'. -/
def askDeeperUptoCard : Claim7 := { stood := { row := askDeeperUptoRow, standIns := [], harness := (true, "e63507c4b84cfbff93743d0a7721f21f07faf479c35b660da6caf4e59c03a771"), looks := true }, kinds := [], alts := [], laidByText := true, laidKinds := [.data, .data, .data, .data, .sentinel, .sentinel, .data, .pinned, .pinned, .pinned, .pinned], laidTests := true, laidLooks := .later }
def AskDeeperUptoCardSaid : Prop := Claim7.holds Tryz.pinned (.plain (OpenSpec.upto askDeeperSpec)) askDeeperUptoCard

/-- THE SECOND FORM's CARD OF 'grapevinelaw14.AskJoins'. -/
def askJoinsUptoCard : Claim7 := { stood := { row := askJoinsUptoRow, standIns := [], harness := (true, "e63507c4b84cfbff93743d0a7721f21f07faf479c35b660da6caf4e59c03a771"), looks := true }, kinds := [], alts := [], laidByText := true, laidKinds := [.data, .data, .data, .data, .sentinel, .sentinel, .data, .pinned, .pinned, .pinned, .pinned], laidTests := true, laidLooks := .later }
def AskJoinsUptoCardSaid : Prop := Claim7.holds Tryz.pinned (.plain (OpenSpec.upto askJoinsSpec)) askJoinsUptoCard
end Rows
end Go.Proofs.YtmgkpphbehamcaaGreatDoor
