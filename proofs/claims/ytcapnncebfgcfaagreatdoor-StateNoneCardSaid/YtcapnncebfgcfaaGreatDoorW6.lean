/- A world that meets the row's condition on nine tables of Go's library, and what the condition gives a walk. -/
import Derived.Test.YtcapnncebfgcfaaGreatDoorRows
import Derived.Test.YtcapnncebfgcfaaGreatDoorT
import Derived.Lib.LaidU8T
import Derived.Lay
import Derived.LaidMore
import Derived.MakeChecks
import Derived.LaidLaws
import Derived.LaidHandle
import Derived.SevenTiedAt
import Derived.PinnedBridge
namespace Go.Proofs.YtcapnncebfgcfaaGreatDoor.Laid
open Go Go.Lib Go.Proofs
set_option linter.unusedVariables false
noncomputable def list : List (String × DataW Unit) := [("math/bits.deBruijn32tab", Rows.laid_math_bits_deBruijn32tab), ("math/bits.deBruijn64tab", Rows.laid_math_bits_deBruijn64tab), ("internal/strconv.uint64pow10", Rows.laid_internal_strconv_uint64pow10), ("unicode/utf8.acceptRanges", Rows.laid_unicode_utf8_acceptRanges), ("unicode.properties", Rows.laid_unicode_properties), ("unicode.CaseRanges", Rows.laid_unicode_CaseRanges), ("unicode.Digit", Rows.laid_unicode_Digit), ("unicode.Letter", Rows.laid_unicode_Letter), ("unicode/utf8.first", Rows.laid_unicode_utf8_first)]
theorem met (os : Os) (args : Array Value) : laidMetH Tryz.prog list ((World.laidAll Tryz.prog os list).forCall (fun _ _ => 0) ⟨#[], args, []⟩).memory := by
  rw [MakeChecks.laidMetH_plain _ _ _ (by kernel_rfl)]
  exact laidMet_laidAll _ (by kernel_rfl) (by kernel_rfl)
theorem e1 : Rows.laid_unicode_utf8_first = Lib.firstData := by kernel_rfl
theorem e2 : (Rows.laid_unicode_utf8_acceptRanges : DataW Unit) = Lib.acceptData := by kernel_rfl
theorem tabs {W : World} (hL : laidMetH Tryz.prog list W) : Lib.Utf8Tabs (Tryz.laysValid_ren.g 3) (Tryz.laysValid_ren.g 4) W := by
  have h : laidMet Tryz.prog list W := by
    rw [MakeChecks.laidMetH_plain _ _ _ (by kernel_rfl)] at hL
    exact hL
  have h1 := Lib.laidMet.reads h (.tail _ (.tail _ (.tail _ (.tail _ (.tail _ (.tail _ (.tail _ (.tail _ (.head _)))))))))
  have h2 := Lib.laidMet.reads h (.tail _ (.tail _ (.tail _ (.head _))))
  rw [e1] at h1
  rw [e2] at h2
  exact utf8Tabs_of_readsT (U8Types.of196 Tryz.laysValid) ⟨by kernel_rfl, by kernel_rfl, by kernel_rfl, by kernel_rfl, by kernel_rfl, by kernel_rfl, by kernel_rfl⟩ h1 h2
theorem stand {p : Program} {ps : Array TypeId} (h : (ps.all fun t => !(p.wantsStandIn t)) = true) (j : Nat) (t : TypeId) (ht : ps[j]? = some t) : p.wantsStandIn t = false := by
  obtain ⟨hj, e⟩ := Array.getElem?_eq_some_iff.1 ht
  have := (Array.all_eq_true.1 h) j hj
  rw [e] at this
  simpa using this
end Go.Proofs.YtcapnncebfgcfaaGreatDoor.Laid
