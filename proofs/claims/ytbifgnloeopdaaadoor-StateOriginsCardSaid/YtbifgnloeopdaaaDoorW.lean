/- A world that meets the rows' condition on Go's tables, and what the condition gives a walk. -/
import Derived.Test.YtbifgnloeopdaaaDoorRows
import Derived.Test.YtbifgnloeopdaaaDoorV0
import Derived.Lib.LaidIn
import Derived.Lib.LaidU8T
import Derived.LaidLaws
import Derived.LaidHandle
import Derived.SevenTiedAt
namespace Go.Proofs.YtbifgnloeopdaaaDoor.Laid
open Go Go.Lib Go.Proofs
set_option linter.unusedVariables false
noncomputable def list : List (String × DataW Unit) := [("unicode/utf8.acceptRanges", Rows.laid_unicode_utf8_acceptRanges), ("unicode/utf8.first", Rows.laid_unicode_utf8_first)]
noncomputable def laidWorld (os : Os) : World :=
 let w0 := World.holding Tryd.prog os ⟨#[], #[], []⟩
 let put (h : Array Obj) (g : Nat) (cs : Array Value) : Array Obj := h.modify g fun
  | .cells _ t frozen => .cells cs t frozen
  | o => o
 let h1 := put w0.heap (Tryd.laysValid_ren.g 3) (Lib.firstTab.map fun z => Value.int .u8 z).toArray
 let h2 := put h1 (Tryd.laysValid_ren.g 4) ((List.range 16).flatMap fun i => [Value.int .u8 (Lib.accLo i), Value.int .u8 (Lib.accHi i)]).toArray
 { w0 with heap := h2 }
theorem met (os : Os) (args : Array Value) : laidMetH Tryd.prog list ((laidWorld os).forCall (fun _ _ => 0) ⟨#[], args, []⟩).memory :=
 (LaidIn.of_run (l := list) [Tryd.laysValid_ren.g 3, Tryd.laysValid_ren.g 4] 8 (by kernel_rfl) (by kernel_rfl) (by kernel_rfl) (by kernel_rfl)).met
theorem e1 : Rows.laid_unicode_utf8_first = Lib.firstData := by kernel_rfl
theorem e2 : (Rows.laid_unicode_utf8_acceptRanges : DataW Unit) = Lib.acceptData := by kernel_rfl
theorem tabs {W : World} (hL : laidMetH Tryd.prog list W) : Lib.Utf8Tabs (Tryd.laysValid_ren.g 3) (Tryd.laysValid_ren.g 4) W := by
 have h : laidMet Tryd.prog list W := hL; have h1 := Lib.laidMet.reads h (.tail _ (.head _)); have h2 := Lib.laidMet.reads h (.head _); rw [e1] at h1; rw [e2] at h2; exact utf8Tabs_of_readsT (U8Types.of196 Tryd.laysValid) ⟨by kernel_rfl, by kernel_rfl, by kernel_rfl, by kernel_rfl, by kernel_rfl, by kernel_rfl, by kernel_rfl⟩ h1 h2
theorem stand {p : Program} {ps : Array TypeId} (h : (ps.all fun t => !(p.wantsStandIn t)) = true) (j : Nat) (t : TypeId) (ht : ps[j]? = some t) : p.wantsStandIn t = false := by
 obtain ⟨hj, e⟩ := Array.getElem?_eq_some_iff.1 ht; have := (Array.all_eq_true.1 h) j hj; rw [e] at this; simpa using this
end Go.Proofs.YtbifgnloeopdaaaDoor.Laid
