/- The row of StampRises, out of its walk and its plain law. Written by gg.py of this repo. -/
import Derived.Test.YtmphcmgbognmnaaRows
import Derived.Test.YtmphcmgbognmnaaLStampRises
import Derived.Test.YtmphcmgbognmnaaPStampRises
import Derived.Test.YtmphcmgbognmnaaGgJ
namespace Go.Proofs.Ytmphcmgbognmnaa.stampRises
open Go.ChangeShapes Go.WideShapes Go.ChangeAt Go.RowKit Go.Gg
open Go.ChangeMaps (open_string shut_string)
set_option linter.unusedVariables false
theorem own : ownKnob Try.prog.godebug = none := by kernel_rfl
theorem laidOut : laidOutB Try.prog = true := by kernel_rfl
open Go.Proofs.Ytmphcmgbognmnaa.Gf
theorem opensT23 : Opens Try.prog 23 k23 (fun x => ((Lit.int .i64 x.f0).wf = true ∧ (Lit.int .i64 x.f1).wf = true)) := by
  intro H enc W spare held fuel cs d ps h
  obtain ⟨ys, n, _, _, hl, hlen, hf⟩ := DataW.trod_struct Try.underlying23 h
  have hl : cs.length = 2 := hl.trans (by kernel_rfl)
  have hy : ys.length = 2 := hlen
  have z0 : Try.prog.cellsOf 3 = 1 := by kernel_rfl
  have h0 := hf 0 _ rfl
  rw [List.getElem?_eq_getElem (by omega)] at h0
  replace h0 : DataW.trod enc Try.prog W 0 spare held n 3 ((cs.drop 0).take (Try.prog.cellsOf 3)) = some (ys[0]'(by omega)) := h0
  rw [z0] at h0
  obtain ⟨x0, e0, w0⟩ := (Opens.int Try.underlying3) enc W spare held n _ _ _ h0
  have z1 : Try.prog.cellsOf 3 = 1 := by kernel_rfl
  have h1 := hf 1 _ rfl
  rw [List.getElem?_eq_getElem (by omega)] at h1
  replace h1 : DataW.trod enc Try.prog W 0 spare held n 3 ((cs.drop 1).take (Try.prog.cellsOf 3)) = some (ys[1]'(by omega)) := h1
  rw [z1] at h1
  obtain ⟨x1, e1, w1⟩ := (Opens.int Try.underlying3) enc W spare held n _ _ _ h1
  match cs, hl with
  | [c0, c1], _ =>
    replace e0 : [c0] = [.int .i64 x0] := e0
    simp only [List.cons.injEq, and_true] at e0
    replace e1 : [c1] = [.int .i64 x1] := e1
    simp only [List.cons.injEq, and_true] at e1
    exact ⟨⟨x0, x1⟩, by rw [e0, e1]; rfl, w0, w1⟩
theorem opensT39 : Opens Try.prog 39 k39 (fun x => (True ∧ (Lit.int .i64 x.f1).wf = true ∧ (Lit.int .i64 x.f2).wf = true ∧ (Lit.int .i64 x.f3).wf = true)) := by
  intro H enc W spare held fuel cs d ps h
  obtain ⟨ys, n, _, _, hl, hlen, hf⟩ := DataW.trod_struct Try.underlying39 h
  have hl : cs.length = 4 := hl.trans (by kernel_rfl)
  have hy : ys.length = 3 := hlen
  have z0 : Try.prog.cellsOf 4 = 1 := by kernel_rfl
  have h0 := hf 0 _ rfl
  rw [List.getElem?_eq_getElem (by omega)] at h0
  replace h0 : DataW.trod enc Try.prog W 0 spare held n 4 ((cs.drop 0).take (Try.prog.cellsOf 4)) = some (ys[0]'(by omega)) := h0
  rw [z0] at h0
  obtain ⟨x0, e0, w0⟩ := (Opens.bool Try.underlying4) enc W spare held n _ _ _ h0
  have z1 : Try.prog.cellsOf 23 = 2 := by kernel_rfl
  have h1 := hf 1 _ rfl
  rw [List.getElem?_eq_getElem (by omega)] at h1
  replace h1 : DataW.trod enc Try.prog W 0 spare held n 23 ((cs.drop 1).take (Try.prog.cellsOf 23)) = some (ys[1]'(by omega)) := h1
  rw [z1] at h1
  obtain ⟨x1, e1, w1⟩ := opensT23 enc W spare held n _ _ _ h1
  have z2 : Try.prog.cellsOf 3 = 1 := by kernel_rfl
  have h2 := hf 2 _ rfl
  rw [List.getElem?_eq_getElem (by omega)] at h2
  replace h2 : DataW.trod enc Try.prog W 0 spare held n 3 ((cs.drop 3).take (Try.prog.cellsOf 3)) = some (ys[2]'(by omega)) := h2
  rw [z2] at h2
  obtain ⟨x2, e2, w2⟩ := (Opens.int Try.underlying3) enc W spare held n _ _ _ h2
  match cs, hl with
  | [c0, c1, c2, c3], _ =>
    replace e0 : [c0] = [.bool x0] := e0
    simp only [List.cons.injEq, and_true] at e0
    replace e1 : [c1, c2] = [.int .i64 x1.f0, .int .i64 x1.f1] := e1
    simp only [List.cons.injEq, and_true] at e1
    replace e2 : [c3] = [.int .i64 x2] := e2
    simp only [List.cons.injEq, and_true] at e2
    exact ⟨⟨x0, x1.f0, x1.f1, x2⟩, by rw [e0, e1.1, e1.2, e2]; rfl, w0, w1.1, w1.2, w2⟩
set_option maxRecDepth 100000 in
theorem lifted (os : Os) (started : os.Started) (H : Type) (enc : TypeId × Value → H) :
    ReturnsInHanded {} Try.checked os 5 .any (Rows.stampRisesSpec.pre6 enc Try.prog Try.f5 Rows.stampRisesRow.domain false) (Rows.stampRisesSpec.post enc Try.prog Try.f5 false true false false) := by
  refine returnsInHanded_of_change_sized (C := Try.checked) own started (by kernel_rfl) Try.func5
    (ChangeSpec.witness6 (enc := enc) (C := Try.checked) false ⟨#[], #[.agg #[.int .i64 0, .int .i64 0], .slice none 0 0], []⟩ 8 (by kernel_rfl) (by kernel_rfl) (by kernel_rfl) (by kernel_rfl)) ?_
  intro W base args ds gs before hval0 hW hcnd hsz0 _
  have hval : ∀ (j : Nat) t v, Try.f5.params[j]? = some t → args[j]? = some v → Value.okWide Try.prog W .any base t v := hval0
  have hW' := hW
  obtain ⟨p, q, hA0, hV, rfl, hfz, hnd⟩ := hW
  have hA : DataW.TrodAll enc Try.prog W 0 (fun _ => true) true Try.f5.params.toList args.toList ds p := hA0
  rw [Try.params5] at hA hval
  obtain ⟨v0, vs0, d0, ds0, p0, q0, hargs, rfl, rfl, h0, r0⟩ := trodAll_cons hA
  obtain ⟨v1, vs1, d1, ds1, p1, q1, rfl, rfl, rfl, h1, r1⟩ := trodAll_cons r0
  obtain ⟨rfl, rfl, rfl⟩ := trodAll_nil r1
  obtain rfl : args = #[v0, v1] := by cases args; simp_all
  obtain ⟨rfl, rfl⟩ := trodVars_none hV
  have k0 := h0
  have lt0 : ∀ x ∈ p0, x.block < W.heap.size := by obtain ⟨m, hm⟩ := k0; exact DataW.trod_lt m _ _ _ hm
  obtain ⟨cs0, rfl, _⟩ := okWide_struct Try.underlying23 (hval 0 23 v0 rfl rfl)
  obtain ⟨a0, e0, w0⟩ : ∃ x, k23.rel (heapG W) x (Value.agg cs0).cells.toList ∧ ((Lit.int .i64 x.f0).wf = true ∧ (Lit.int .i64 x.f1).wf = true) := by
    obtain ⟨m, hm⟩ := h0
    exact opensT23 enc W _ _ m _ _ _ hm
  replace e0 : cs0.toList = [.int .i64 a0.f0, .int .i64 a0.f1] := e0
  obtain rfl : cs0 = #[.int .i64 a0.f0, .int .i64 a0.f1] := Array.toList_inj.1 e0
  have k1 := h1
  have lt1 : ∀ x ∈ p1, x.block < W.heap.size := by obtain ⟨m, hm⟩ := k1; exact DataW.trod_lt m _ _ _ hm
  obtain ⟨A1, n1, c1, rfl⟩ := okWide_slice Try.underlying33 (hval 1 33 v1 rfl rfl)
  obtain ⟨l1, ⟨B1, e1, eq1, H1⟩, w1⟩ : ∃ x, (kSlice k39).rel (heapG W) x (Value.slice A1 n1 c1).cells.toList ∧ (x.length ≤ maxLen ∧ ∀ z0 ∈ x, (True ∧ (Lit.int .i64 z0.f1).wf = true ∧ (Lit.int .i64 z0.f2).wf = true ∧ (Lit.int .i64 z0.f3).wf = true)) := by
    obtain ⟨m, hm⟩ := h1
    exact (Opens.slice (kd := k39) Try.underlying33 opensT39 (by kernel_rfl) (by decide)) enc W _ _ m _ _ _ hm
  simp [Value.cells] at eq1
  obtain ⟨rfl, rfl, rfl⟩ := eq1
  clear hA0 hval0 hsz0
  obtain ⟨k, hk⟩ := Pure.StampRises a0 l1 w0 w1
  refine (Gf.grapevinelaw2_StampRises_calls k a0 l1 A1 c1 H1 true hk (Inv.start W)).mono fun e W' hret => ?_
  obtain ⟨_, _, _, rfl, ⟨rfl, rfl, rfl⟩, hI⟩ := hret
  have bel := hI.below
  exact ⟨_, rfl, _, _, _, [], _, [], hW', trodAll_mk1 (shut_bool Try.underlying4 _), (trodAll_cons_mk (Below.trod laidOut (by kernel_rfl) (of_decide_eq_true (by kernel_rfl)) k0 bel lt0) (trodAll_cons_mk (Below.trod laidOut (by kernel_rfl) (of_decide_eq_true (by kernel_rfl)) k1 bel lt1) trodAll_mk0)), rfl, bel.frame _, fun h => by cases h⟩
theorem over : Rows.stampRisesRow.holds Try.pinned (OpenSpec.ofChange Rows.stampRisesSpec) :=
  OpenClaim.holds_of_wide 5 Try.f5 rfl rfl rfl rfl rfl rfl rfl ⟨rfl, rfl, rfl, rfl, rfl⟩ rfl rfl rfl rfl rfl (by kernel_rfl) Try.func5 (by kernel_rfl)
    (of_decide_eq_true (by kernel_rfl)) (by unfold Func.isWrapper; first | (rw [if_pos (by decide +kernel)]; kernel_rfl) | (rw [if_neg (by decide +kernel)]; exact ⟨rfl, rfl⟩))
    (fun os started H enc _ => lifted os started H enc)
end Go.Proofs.Ytmphcmgbognmnaa.stampRises
namespace Go.Proofs.Ytmphcmgbognmnaa
theorem stampRises_holds : Rows.StampRisesSaid := stampRises.over
#print axioms stampRises_holds
end Go.Proofs.Ytmphcmgbognmnaa
