/- A world that meets the rows' condition on nine tables of Go's library, and what the condition gives a walk. -/
import Derived.Test.YtmgkpphbehamcaaGreatDoorRows
import Derived.Test.YtmgkpphbehamcaaGreatDoorT
import Derived.Lib.LaidU8T
import Derived.Lib.LaidRTabT
import Derived.Lib.LaidCase
import Derived.Lib.LaidTab
import Derived.PinnedBridge
import Derived.Lay
import Derived.LaidMore
import Derived.MakeChecks
import Derived.LaidLaws
import Derived.LaidHandle
import Derived.SevenTiedAt
import Derived.HandedShaped
import Derived.Handed
import Derived.Shelf.Vars
namespace Go.Proofs.YtmgkpphbehamcaaGreatDoor.Laid
open Go Go.Lib Go.Proofs
set_option linter.unusedVariables false
noncomputable def list : List (String × DataW Unit) := [("math/bits.deBruijn32tab", Rows.laid_math_bits_deBruijn32tab), ("math/bits.deBruijn64tab", Rows.laid_math_bits_deBruijn64tab), ("internal/strconv.uint64pow10", Rows.laid_internal_strconv_uint64pow10), ("unicode/utf8.acceptRanges", Rows.laid_unicode_utf8_acceptRanges), ("strconv.ErrRange", Rows.laid_strconv_ErrRange), ("strconv.ErrSyntax", Rows.laid_strconv_ErrSyntax), ("unicode.properties", Rows.laid_unicode_properties), ("unicode.CaseRanges", Rows.laid_unicode_CaseRanges), ("unicode.Digit", Rows.laid_unicode_Digit), ("unicode.Letter", Rows.laid_unicode_Letter), ("unicode/utf8.first", Rows.laid_unicode_utf8_first)]
theorem met (os : Os) (args : Array Value) : laidMetH Tryz.prog list ((World.laidAll Tryz.prog os list).forCall (fun _ _ => 0) ⟨#[], args, []⟩).memory := by
 rw [MakeChecks.laidMetH_plain _ _ _ (by kernel_rfl)]; exact laidMet_laidAll _ (by kernel_rfl) (by kernel_rfl)
theorem e1 : Rows.laid_unicode_utf8_first = Lib.firstData := by kernel_rfl
theorem e2 : (Rows.laid_unicode_utf8_acceptRanges : DataW Unit) = Lib.acceptData := by kernel_rfl
theorem e3 : (Rows.laid_unicode_properties : DataW Unit) = Lib.tabData .u8 Lib.propertiesTab := by kernel_rfl
theorem e4 : Rows.laid_unicode_Letter = Lib.rtabData Lib.letterT := Pinned.letter_eq
theorem e5 : Rows.laid_unicode_Digit = Lib.rtabData Lib.digitT := Pinned.digit_eq
theorem e6 : Rows.laid_unicode_CaseRanges = Lib.caseData := Pinned.caseRanges_eq
theorem e7 : (Rows.laid_internal_strconv_uint64pow10 : DataW Unit) = Lib.tabData .u64 Lib.pow10Tab := by kernel_rfl
theorem tabIs_of_reads {P : Program} {W : World} {name : String} {k : IntKind} {zs : List Int} {g : Nat} {t e : TypeId} {n : Nat}
  (hg : P.globalNamed name = some g) (hty : (P.globals[g]?).map (·.type) = some t) (ht : P.underlying t = some (.array n e)) (he : P.underlying e = some (.int k)) (hce : P.cellsOf e = 1) (hct : P.cellsOf t = n)
  (h : VarReads P W name (tabData k zs)) : TabIs P W name k zs := by
 obtain ⟨g', t', cs, fuel, p, hg', ht', hvar, hd⟩ := h; obtain rfl := Option.some.inj (hg.symm.trans hg'); obtain rfl := Option.some.inj (hty.symm.trans ht'); unfold TabIs; rw [hvar, ← cells_of_tab ht he hce hct hd]
theorem rex : RExtra Tryz.prog Tryz.lays261_ren := ⟨by kernel_rfl, by kernel_rfl, by kernel_rfl, by kernel_rfl, by kernel_rfl, by kernel_rfl, by kernel_rfl, by kernel_rfl⟩
set_option maxRecDepth 100000 in
theorem row {H : Type} {enc : TypeId × Value → H} {os : Os} {f : FuncId} {fn : Func} {s : ChangeSpec} (started : os.Started) (noInit : Tryz.checked.prog.inits.idxOf? f = none) (hfn : Tryz.checked.prog.funcs[f]? = some fn)
  (wit : ∃ (w : World) (tape : Tape) (i : Input), w.os = os ∧ (w.forCall tape i).Shaped Tryz.checked.prog ∧ i.vars = [] ∧ Input.okWide Tryz.checked.prog (w.forCall tape i) .any w.heap.size f i ∧
   ((s.pre enc Tryz.prog fn [] false (w.forCall tape i).memory i.args ∧ laidMetH Tryz.prog list (w.forCall tape i).memory) ∧ sizedMet enc Tryz.prog fn (OpenSpec.ofChange s) false (w.forCall tape i).memory i.args) ∧ ({} : Assume).holds Tryz.checked.prog (lone (Frame.enter Tryz.checked.prog f i.args .normal) [] (w.forCall tape i)))
  (walk : ∀ (W : World) (base : Nat) (args : Array Value) (ds gs : List (DataW H)) (before : List MemPlace), (∀ (j : Nat) t v, fn.params[j]? = some t → args[j]? = some v → Value.okWide Tryz.prog W .any base t v) →
   DataW.Whole enc Tryz.prog fn.params.toList s.vars false W args.toList ds gs before → ([] : List PathCond).all (PathCond.test Tryz.prog ⟨fn.params.toList, ds, s.plain.varTypes Tryz.prog, gs⟩) = true →
   (DataW.weightsEach Tryz.prog (fn.params.toList ++ s.plain.varTypes Tryz.prog) (ds ++ gs)).all (· ≤ reachBytes) = true → laidMetH Tryz.prog list W → W.ShapedOpen Tryz.prog → ({} : Assume).holds Tryz.checked.prog (lone (Frame.enter Tryz.checked.prog f args .normal) [] W) →
   Calls Tryz.prog f args W fun e W' => ∃ v, e = .returned v ∧ s.post enc Tryz.prog fn false true false false W args v W') :
  ReturnsInHanded {} Tryz.checked os f .any (fun w args => (s.pre enc Tryz.prog fn [] false w args ∧ laidMetH Tryz.prog list w) ∧ sizedMet enc Tryz.prog fn (OpenSpec.ofChange s) false w args) (s.post enc Tryz.prog fn false true false false) :=
 returnsInHanded_of_calls (by kernel_rfl) started noInit wit fun w tape i _ shaped _ ⟨_, _, _, fn1, h1, _, _, _, _, vals⟩ ⟨⟨⟨ds, gs, bf, whole, cnd⟩, hx⟩, hz⟩ hh => by
  obtain rfl : fn1 = fn := Option.some.inj (h1.symm.trans hfn); refine (walk _ w.heap.size i.args ds gs bf vals (DataW.Whole.of_heap (by rfl) whole) cnd (hz.weights whole) (hx.of_heap (by rfl)) shaped hh).mono ?_; rintro _ W' ⟨v, rfl, post⟩; exact ChangeSpec.post_blind post
theorem tabs {W : World} (hL : laidMetH Tryz.prog list W) (hS : W.ShapedOpen Tryz.prog) : Gf.Tab W := by
 have h : laidMet Tryz.prog list W := by
  rw [MakeChecks.laidMetH_plain _ _ _ (by kernel_rfl)] at hL; exact hL
 have h2 := Lib.laidMet.reads h (.tail _ (.tail _ (.tail _ (.head _)))); have h3 := Lib.laidMet.reads h (.tail _ (.tail _ (.tail _ (.tail _ (.tail _ (.tail _ (.head _))))))); have h6 := Lib.laidMet.reads h (.tail _ (.tail _ (.tail _ (.tail _ (.tail _ (.tail _ (.tail _ (.head _)))))))); have h5 := Lib.laidMet.reads h (.tail _ (.tail _ (.tail _ (.tail _ (.tail _ (.tail _ (.tail _ (.tail _ (.head _))))))))); have h4 := Lib.laidMet.reads h (.tail _ (.tail _ (.tail _ (.tail _ (.tail _ (.tail _ (.tail _ (.tail _ (.tail _ (.head _)))))))))); have h1 := Lib.laidMet.reads h (.tail _ (.tail _ (.tail _ (.tail _ (.tail _ (.tail _ (.tail _ (.tail _ (.tail _ (.tail _ (.head _))))))))))); have h7 := Lib.laidMet.reads h (.tail _ (.tail _ (.head _))); rw [e1] at h1; rw [e2] at h2; rw [e3] at h3; rw [e4] at h4; rw [e5] at h5; rw [e6] at h6; rw [e7] at h7; exact ⟨utf8Tabs_of_readsT (U8Types.of196 Tryz.laysValid) ⟨by kernel_rfl, by kernel_rfl, by kernel_rfl, by kernel_rfl, by kernel_rfl, by kernel_rfl, by kernel_rfl⟩ h1 h2,
  tabIs_of_reads (g := Tryz.lays200_ren.g 7) (by kernel_rfl) (by kernel_rfl) Tryz.lays200.t119 Tryz.lays200.t5 (by kernel_rfl) (by kernel_rfl) h3,
  rvar_of_readsT (RTypes.of261 Tryz.lays261) rex (by kernel_rfl) (by kernel_rfl) h4,
  rvar_of_readsT (RTypes.of261 Tryz.lays261) rex (by kernel_rfl) (by kernel_rfl) h5,
  caseVar_of_reads (ρ := Tryz.lays204_ren) { Tryz.lays204 with } Tryz.lays204.t206 ⟨by kernel_rfl, by kernel_rfl, by kernel_rfl, by kernel_rfl, by kernel_rfl, by kernel_rfl⟩ h6,
  tabIs_of_reads (g := Tryz.laysM171_ren.g 17) (by kernel_rfl) (by kernel_rfl) Tryz.underlying165 Tryz.underlying133 (by kernel_rfl) (by kernel_rfl) h7,
  cell_of_shapedOpen_int (P := Tryz.prog) (g := 3) (t := 3) (zero := #[.int .i64 0]) hS (of_decide_eq_true (by kernel_rfl)) (by kernel_rfl) rfl (by kernel_rfl) (by kernel_rfl) Tryz.underlying3⟩
theorem stand {p : Program} {ps : Array TypeId} (h : (ps.all fun t => !(p.wantsStandIn t)) = true) (j : Nat) (t : TypeId) (ht : ps[j]? = some t) : p.wantsStandIn t = false := by
 obtain ⟨hj, e⟩ := Array.getElem?_eq_some_iff.1 ht; have := (Array.all_eq_true.1 h) j hj; rw [e] at this; simpa using this
end Go.Proofs.YtmgkpphbehamcaaGreatDoor.Laid
