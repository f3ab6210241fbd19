/- The row of StampTwo, out of its walk and its plain law. Written by gg.py of this repo. -/
import Derived.Test.YtmphcmgbognmnaaRows
import Derived.Test.YtmphcmgbognmnaaLStampTwo
import Derived.Test.YtmphcmgbognmnaaPStampTwo
import Derived.Test.YtmphcmgbognmnaaGgJ
namespace Go.Proofs.Ytmphcmgbognmnaa.stampTwo
open Go.ChangeShapes Go.WideShapes Go.ChangeAt Go.RowKit Go.Gg
open Go.ChangeMaps (open_string shut_string)
set_option linter.unusedVariables false
theorem own : ownKnob Try.prog.godebug = none := by kernel_rfl
theorem laidOut : laidOutB Try.prog = true := by kernel_rfl
set_option maxRecDepth 100000 in
theorem lifted (os : Os) (started : os.Started) (H : Type) (enc : TypeId × Value → H) :
    ReturnsInHanded {} Try.checked os 8 .any (Rows.stampTwoSpec.pre6 enc Try.prog Try.f8 Rows.stampTwoRow.domain false) (Rows.stampTwoSpec.post enc Try.prog Try.f8 false true false false) := by
  refine returnsInHanded_of_change_sized (C := Try.checked) own started (by kernel_rfl) Try.func8
    (ChangeSpec.witness6 (enc := enc) (C := Try.checked) false ⟨#[], #[.slice none 0 0, .int .i64 0], []⟩ 8 (by kernel_rfl) (by kernel_rfl) (by kernel_rfl) (by kernel_rfl)) ?_
  intro W base args ds gs before hval0 hW hcnd hsz0 _
  have hval : ∀ (j : Nat) t v, Try.f8.params[j]? = some t → args[j]? = some v → Value.okWide Try.prog W .any base t v := hval0
  have hW' := hW
  obtain ⟨p, q, hA0, hV, rfl, hfz, hnd⟩ := hW
  have hA : DataW.TrodAll enc Try.prog W 0 (fun _ => true) true Try.f8.params.toList args.toList ds p := hA0
  rw [Try.params8] at hA hval
  obtain ⟨v0, vs0, d0, ds0, p0, q0, hargs, rfl, rfl, h0, r0⟩ := trodAll_cons hA
  obtain ⟨v1, vs1, d1, ds1, p1, q1, rfl, rfl, rfl, h1, r1⟩ := trodAll_cons r0
  obtain ⟨rfl, rfl, rfl⟩ := trodAll_nil r1
  obtain rfl : args = #[v0, v1] := by cases args; simp_all
  obtain ⟨rfl, rfl⟩ := trodVars_none hV
  have k0 := h0
  have lt0 : ∀ x ∈ p0, x.block < W.heap.size := by obtain ⟨m, hm⟩ := k0; exact DataW.trod_lt m _ _ _ hm
  obtain ⟨A0, n0, c0, rfl⟩ := okWide_slice Try.underlying52 (hval 0 52 v0 rfl rfl)
  obtain ⟨l0, ⟨B0, e0, eq0, H0⟩, w0⟩ : ∃ x, (kSlice (kInt .i64)).rel (heapG W) x (Value.slice A0 n0 c0).cells.toList ∧ (x.length ≤ maxLen ∧ ∀ z0 ∈ x, (Lit.int .i64 z0).wf = true) := by
    obtain ⟨m, hm⟩ := h0
    exact (Opens.slice (kd := (kInt .i64)) Try.underlying52 (Opens.int Try.underlying3) (by kernel_rfl) (by decide)) enc W _ _ m _ _ _ hm
  simp [Value.cells] at eq0
  obtain ⟨rfl, rfl, rfl⟩ := eq0
  obtain ⟨a1, rfl, rfl, rfl, w1⟩ := open_int Try.underlying3 (hval 1 3 v1 rfl rfl) h1
  clear hA0 hval0 hsz0
  obtain ⟨k, hk⟩ := Pure.StampTwo l0 a1 w0 w1
  refine (Gf.grapevinelaw2_StampTwo_calls k l0 a1 A0 c0 H0 true hk (Inv.start W)).mono fun e W' hret => ?_
  obtain ⟨_, _, _, rfl, ⟨rfl, rfl, rfl⟩, hI⟩ := hret
  have bel := hI.below
  exact ⟨_, rfl, _, _, _, [], _, [], hW', trodAll_mk1 (shut_bool Try.underlying4 _), (trodAll_cons_mk (Below.trod laidOut (by kernel_rfl) (of_decide_eq_true (by kernel_rfl)) k0 bel lt0) (trodAll_cons_mk (shut_int Try.underlying3 w1) trodAll_mk0)), rfl, bel.frame _, fun h => by cases h⟩
theorem over : Rows.stampTwoRow.holds Try.pinned (OpenSpec.ofChange Rows.stampTwoSpec) :=
  OpenClaim.holds_of_wide 8 Try.f8 rfl rfl rfl rfl rfl rfl rfl ⟨rfl, rfl, rfl, rfl, rfl⟩ rfl rfl rfl rfl rfl (by kernel_rfl) Try.func8 (by kernel_rfl)
    (of_decide_eq_true (by kernel_rfl)) (by unfold Func.isWrapper; first | (rw [if_pos (by decide +kernel)]; kernel_rfl) | (rw [if_neg (by decide +kernel)]; exact ⟨rfl, rfl⟩))
    (fun os started H enc _ => lifted os started H enc)
end Go.Proofs.Ytmphcmgbognmnaa.stampTwo
namespace Go.Proofs.Ytmphcmgbognmnaa
theorem stampTwo_holds : Rows.StampTwoSaid := stampTwo.over
#print axioms stampTwo_holds
end Go.Proofs.Ytmphcmgbognmnaa
