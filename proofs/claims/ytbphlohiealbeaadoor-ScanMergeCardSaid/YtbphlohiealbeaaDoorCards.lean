/-
  DERIVED. GIVEN WITH THE SEED: THE CARDS: each row of YtbphlohiealbeaaDoorRows.lean that lists a variable, with what it lists TIED to the program's text (the seventh form; the later family's looks); each row that meets fmt, with fmt's text TOLD by the authors' own Lean function (tested against real Go, not proved from fmt's source: count such statements apart). THE CARD IS WHAT COUNTS. Prove the row's statement (the work); the ties are given (YtbphlohiealbeaaDoorTie.lean); close each card by the builder's one call (the guide's Derived/Test/ToyasCard.lean, 'card_holds'). Laid BY PROGRAM, IN A SANDBOX (cutbox-door.mjs). By AI agents, Wed Nov 11 2026. No macro, syntax, notation, axiom, sorry.
-/
import Derived.Test.YtbphlohiealbeaaDoorRows
import GoSem.ClaimSeven
namespace Go.Proofs.YtbphlohiealbeaaDoor
namespace Rows

/-- THE TIED CARD OF 'grapevinelaw15.DeemTells'. -/
def deemTellsCard : Claim7 := { stood := { row := deemTellsRow, standIns := [], harness := (true, "17200f866ac54ac08dec74046063ea6ee1bd05dc43d117e755f9d5069706d4b2"), looks := false }, kinds := [], alts := [], laidByText := true, laidKinds := [.data, .data, .pinned, .pinned, .pinned, .pinned], laidTests := true, laidLooks := .later }
def DeemTellsCardSaid : Prop := Claim7.holds Tryd.pinned (.plain (OpenSpec.ofChange deemTellsSpec)) deemTellsCard

/-- THE TIED CARD OF 'grapevinelaw15.DeemLogic'. -/
def deemLogicCard : Claim7 := { stood := { row := deemLogicRow, standIns := [], harness := (true, "17200f866ac54ac08dec74046063ea6ee1bd05dc43d117e755f9d5069706d4b2"), looks := false }, kinds := [], alts := [], laidByText := true, laidKinds := [.data, .data, .pinned, .pinned, .pinned, .pinned], laidTests := true, laidLooks := .later }
def DeemLogicCardSaid : Prop := Claim7.holds Tryd.pinned (.plain (OpenSpec.ofChange deemLogicSpec)) deemLogicCard

/-- THE TIED CARD OF 'grapevinelaw15.DeemWords'. -/
def deemWordsCard : Claim7 := { stood := { row := deemWordsRow, standIns := [], harness := (true, "17200f866ac54ac08dec74046063ea6ee1bd05dc43d117e755f9d5069706d4b2"), looks := false }, kinds := [], alts := [], laidByText := true, laidKinds := [.data, .data, .pinned, .pinned, .pinned, .pinned], laidTests := true, laidLooks := .later }
def DeemWordsCardSaid : Prop := Claim7.holds Tryd.pinned (.plain (OpenSpec.ofChange deemWordsSpec)) deemWordsCard

/-- THE TIED CARD OF 'grapevinelaw15.DeemFilters'. -/
def deemFiltersCard : Claim7 := { stood := { row := deemFiltersRow, standIns := [], harness := (true, "17200f866ac54ac08dec74046063ea6ee1bd05dc43d117e755f9d5069706d4b2"), looks := false }, kinds := [], alts := [], laidByText := true, laidKinds := [.data, .data, .pinned, .pinned, .pinned, .pinned], laidTests := true, laidLooks := .later }
def DeemFiltersCardSaid : Prop := Claim7.holds Tryd.pinned (.plain (OpenSpec.ofChange deemFiltersSpec)) deemFiltersCard

/-- THE TIED CARD OF 'grapevinelaw15.DeemTexts'. -/
def deemTextsCard : Claim7 := { stood := { row := deemTextsRow, standIns := [], harness := (true, "17200f866ac54ac08dec74046063ea6ee1bd05dc43d117e755f9d5069706d4b2"), looks := false }, kinds := [], alts := [], laidByText := true, laidKinds := [.data, .data, .pinned, .pinned, .pinned, .pinned], laidTests := true, laidLooks := .later }
def DeemTextsCardSaid : Prop := Claim7.holds Tryd.pinned (.plain (OpenSpec.ofChange deemTextsSpec)) deemTextsCard

/-- THE TIED CARD OF 'grapevinelaw16.ScanMerge'. -/
def scanMergeCard : Claim7 := { stood := { row := scanMergeRow, standIns := [], harness := (true, "17200f866ac54ac08dec74046063ea6ee1bd05dc43d117e755f9d5069706d4b2"), looks := false }, kinds := [], alts := [], laidByText := true, laidKinds := [.data, .data, .data, .data, .data, .pinned, .pinned, .pinned, .pinned], laidTests := true, laidLooks := .later }
def ScanMergeCardSaid : Prop := Claim7.holds Tryd.pinned (.plain (OpenSpec.ofChange scanMergeSpec)) scanMergeCard

/-- THE SECOND FORM's CARD OF 'grapevinelaw15.DeemTells'. -/
def deemTellsUptoCard : Claim7 := { stood := { row := deemTellsUptoRow, standIns := [], harness := (true, "17200f866ac54ac08dec74046063ea6ee1bd05dc43d117e755f9d5069706d4b2"), looks := false }, kinds := [], alts := [], laidByText := true, laidKinds := [.data, .data, .pinned, .pinned, .pinned, .pinned], laidTests := true, laidLooks := .later }
def DeemTellsUptoCardSaid : Prop := Claim7.holds Tryd.pinned (.plain (OpenSpec.upto deemTellsSpec)) deemTellsUptoCard

/-- THE SECOND FORM's CARD OF 'grapevinelaw15.DeemLogic'. -/
def deemLogicUptoCard : Claim7 := { stood := { row := deemLogicUptoRow, standIns := [], harness := (true, "17200f866ac54ac08dec74046063ea6ee1bd05dc43d117e755f9d5069706d4b2"), looks := false }, kinds := [], alts := [], laidByText := true, laidKinds := [.data, .data, .pinned, .pinned, .pinned, .pinned], laidTests := true, laidLooks := .later }
def DeemLogicUptoCardSaid : Prop := Claim7.holds Tryd.pinned (.plain (OpenSpec.upto deemLogicSpec)) deemLogicUptoCard

/-- THE SECOND FORM's CARD OF 'grapevinelaw15.DeemWords'. -/
def deemWordsUptoCard : Claim7 := { stood := { row := deemWordsUptoRow, standIns := [], harness := (true, "17200f866ac54ac08dec74046063ea6ee1bd05dc43d117e755f9d5069706d4b2"), looks := false }, kinds := [], alts := [], laidByText := true, laidKinds := [.data, .data, .pinned, .pinned, .pinned, .pinned], laidTests := true, laidLooks := .later }
def DeemWordsUptoCardSaid : Prop := Claim7.holds Tryd.pinned (.plain (OpenSpec.upto deemWordsSpec)) deemWordsUptoCard

/-- THE SECOND FORM's CARD OF 'grapevinelaw15.DeemFilters'. -/
def deemFiltersUptoCard : Claim7 := { stood := { row := deemFiltersUptoRow, standIns := [], harness := (true, "17200f866ac54ac08dec74046063ea6ee1bd05dc43d117e755f9d5069706d4b2"), looks := false }, kinds := [], alts := [], laidByText := true, laidKinds := [.data, .data, .pinned, .pinned, .pinned, .pinned], laidTests := true, laidLooks := .later }
def DeemFiltersUptoCardSaid : Prop := Claim7.holds Tryd.pinned (.plain (OpenSpec.upto deemFiltersSpec)) deemFiltersUptoCard

/-- THE SECOND FORM's CARD OF 'grapevinelaw15.DeemTexts'. -/
def deemTextsUptoCard : Claim7 := { stood := { row := deemTextsUptoRow, standIns := [], harness := (true, "17200f866ac54ac08dec74046063ea6ee1bd05dc43d117e755f9d5069706d4b2"), looks := false }, kinds := [], alts := [], laidByText := true, laidKinds := [.data, .data, .pinned, .pinned, .pinned, .pinned], laidTests := true, laidLooks := .later }
def DeemTextsUptoCardSaid : Prop := Claim7.holds Tryd.pinned (.plain (OpenSpec.upto deemTextsSpec)) deemTextsUptoCard

/-- THE SECOND FORM's CARD OF 'grapevinelaw16.ScanMerge'. -/
def scanMergeUptoCard : Claim7 := { stood := { row := scanMergeUptoRow, standIns := [], harness := (true, "17200f866ac54ac08dec74046063ea6ee1bd05dc43d117e755f9d5069706d4b2"), looks := false }, kinds := [], alts := [], laidByText := true, laidKinds := [.data, .data, .data, .data, .data, .pinned, .pinned, .pinned, .pinned], laidTests := true, laidLooks := .later }
def ScanMergeUptoCardSaid : Prop := Claim7.holds Tryd.pinned (.plain (OpenSpec.upto scanMergeSpec)) scanMergeUptoCard
end Rows
end Go.Proofs.YtbphlohiealbeaaDoor
