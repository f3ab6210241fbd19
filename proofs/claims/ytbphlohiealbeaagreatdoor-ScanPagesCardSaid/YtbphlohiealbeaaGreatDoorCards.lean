/-
  DERIVED. GIVEN WITH THE SEED: THE CARDS: each row of YtbphlohiealbeaaGreatDoorRows.lean that lists a variable, with what it lists TIED to the program's text (the seventh form; the later family's looks); each row that meets fmt, with fmt's text TOLD by the authors' own Lean function (tested against real Go, not proved from fmt's source: count such statements apart). THE CARD IS WHAT COUNTS. Prove the row's statement (the work); the ties are given (YtbphlohiealbeaaGreatDoorTie.lean); close each card by the builder's one call (the guide's Derived/Test/ToyasCard.lean, 'card_holds'). Laid BY PROGRAM, IN A SANDBOX (cutbox-door.mjs). By AI agents, Wed Nov 11 2026. No macro, syntax, notation, axiom, sorry.
-/
import Derived.Test.YtbphlohiealbeaaGreatDoorRows
import GoSem.ClaimSeven
namespace Go.Proofs.YtbphlohiealbeaaGreatDoor
namespace Rows

/-- THE TIED CARD OF 'grapevinelaw16.ScanFinds'. -/
def scanFindsCard : Claim7 := { stood := { row := scanFindsRow, standIns := [], harness := (true, "762ea04b8005036940cbb56426e9c5f7b00d8c84bec9cefec42db81293050c07"), looks := false }, kinds := [], alts := [], laidByText := true, laidKinds := [.data, .data, .data, .data, .data, .pinned, .pinned, .pinned, .pinned], laidTests := true, laidLooks := .later }
def ScanFindsCardSaid : Prop := Claim7.holds Tryz.pinned (.plain (OpenSpec.ofChange scanFindsSpec)) scanFindsCard

/-- THE TIED CARD OF 'grapevinelaw16.ScanPages'. -/
def scanPagesCard : Claim7 := { stood := { row := scanPagesRow, standIns := [], harness := (true, "762ea04b8005036940cbb56426e9c5f7b00d8c84bec9cefec42db81293050c07"), looks := false }, kinds := [], alts := [], laidByText := true, laidKinds := [.data, .data, .data, .data, .data, .pinned, .pinned, .pinned, .pinned], laidTests := true, laidLooks := .later }
def ScanPagesCardSaid : Prop := Claim7.holds Tryz.pinned (.plain (OpenSpec.ofChange scanPagesSpec)) scanPagesCard

/-- THE TIED CARD OF 'grapevinelaw16.ScanOrder'. -/
def scanOrderCard : Claim7 := { stood := { row := scanOrderRow, standIns := [], harness := (true, "762ea04b8005036940cbb56426e9c5f7b00d8c84bec9cefec42db81293050c07"), looks := false }, kinds := [], alts := [], laidByText := true, laidKinds := [.data, .data, .data, .data, .data, .pinned, .pinned, .pinned, .pinned], laidTests := true, laidLooks := .later }
def ScanOrderCardSaid : Prop := Claim7.holds Tryz.pinned (.plain (OpenSpec.ofChange scanOrderSpec)) scanOrderCard

/-- THE TIED CARD OF 'grapevinelaw16.ScanLimits'. -/
def scanLimitsCard : Claim7 := { stood := { row := scanLimitsRow, standIns := [], harness := (true, "762ea04b8005036940cbb56426e9c5f7b00d8c84bec9cefec42db81293050c07"), looks := false }, kinds := [], alts := [], laidByText := true, laidKinds := [.data, .data, .data, .data, .data, .pinned, .pinned, .pinned, .pinned], laidTests := true, laidLooks := .later }
def ScanLimitsCardSaid : Prop := Claim7.holds Tryz.pinned (.plain (OpenSpec.ofChange scanLimitsSpec)) scanLimitsCard

/-- THE SECOND FORM's CARD OF 'grapevinelaw16.ScanFinds'. -/
def scanFindsUptoCard : Claim7 := { stood := { row := scanFindsUptoRow, standIns := [], harness := (true, "762ea04b8005036940cbb56426e9c5f7b00d8c84bec9cefec42db81293050c07"), looks := false }, kinds := [], alts := [], laidByText := true, laidKinds := [.data, .data, .data, .data, .data, .pinned, .pinned, .pinned, .pinned], laidTests := true, laidLooks := .later }
def ScanFindsUptoCardSaid : Prop := Claim7.holds Tryz.pinned (.plain (OpenSpec.upto scanFindsSpec)) scanFindsUptoCard

/-- THE SECOND FORM's CARD OF 'grapevinelaw16.ScanPages'. -/
def scanPagesUptoCard : Claim7 := { stood := { row := scanPagesUptoRow, standIns := [], harness := (true, "762ea04b8005036940cbb56426e9c5f7b00d8c84bec9cefec42db81293050c07"), looks := false }, kinds := [], alts := [], laidByText := true, laidKinds := [.data, .data, .data, .data, .data, .pinned, .pinned, .pinned, .pinned], laidTests := true, laidLooks := .later }
def ScanPagesUptoCardSaid : Prop := Claim7.holds Tryz.pinned (.plain (OpenSpec.upto scanPagesSpec)) scanPagesUptoCard

/-- THE SECOND FORM's CARD OF 'grapevinelaw16.ScanOrder'. -/
def scanOrderUptoCard : Claim7 := { stood := { row := scanOrderUptoRow, standIns := [], harness := (true, "762ea04b8005036940cbb56426e9c5f7b00d8c84bec9cefec42db81293050c07"), looks := false }, kinds := [], alts := [], laidByText := true, laidKinds := [.data, .data, .data, .data, .data, .pinned, .pinned, .pinned, .pinned], laidTests := true, laidLooks := .later }
def ScanOrderUptoCardSaid : Prop := Claim7.holds Tryz.pinned (.plain (OpenSpec.upto scanOrderSpec)) scanOrderUptoCard

/-- THE SECOND FORM's CARD OF 'grapevinelaw16.ScanLimits'. -/
def scanLimitsUptoCard : Claim7 := { stood := { row := scanLimitsUptoRow, standIns := [], harness := (true, "762ea04b8005036940cbb56426e9c5f7b00d8c84bec9cefec42db81293050c07"), looks := false }, kinds := [], alts := [], laidByText := true, laidKinds := [.data, .data, .data, .data, .data, .pinned, .pinned, .pinned, .pinned], laidTests := true, laidLooks := .later }
def ScanLimitsUptoCardSaid : Prop := Claim7.holds Tryz.pinned (.plain (OpenSpec.upto scanLimitsSpec)) scanLimitsUptoCard
end Rows
end Go.Proofs.YtbphlohiealbeaaGreatDoor
