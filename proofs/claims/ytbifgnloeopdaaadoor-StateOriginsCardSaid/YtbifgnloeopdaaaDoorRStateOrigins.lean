/- The row of StateOrigins, out of its walk and its plain law. Written by gg.py of this repo. -/
import Derived.Test.YtbifgnloeopdaaaDoorRows
import Derived.Test.YtbifgnloeopdaaaDoorLStateOrigins
import Derived.Test.YtbifgnloeopdaaaDoorPStateOrigins
import Derived.Test.YtbifgnloeopdaaaDoorGgJ
import Derived.Test.YtbifgnloeopdaaaDoorW
import Derived.Test.YtbifgnloeopdaaaDoorTie
import Derived.Test.YtbifgnloeopdaaaDoorCards
import Derived.ChangeSame
import Derived.ChangeVars
import Derived.JoinedOf
import Derived.RowKit
import Derived.RowKitTokens
import Derived.Stop.Joined
import Derived.SevenTiedAt
namespace Go.Proofs.YtbifgnloeopdaaaDoor.stateOrigins
open Go.ChangeShapes Go.WideShapes Go.ChangeAt Go.RowKit Go.Gg
open Go.ChangeMaps (open_string shut_string)
set_option linter.unusedVariables false
theorem own : ownKnob Tryd.prog.godebug = none := by kernel_rfl
theorem laidOut : laidOutB Tryd.prog = true := by kernel_rfl
open Go.Proofs.YtbifgnloeopdaaaDoor.Gf
set_option maxRecDepth 100000 in
theorem opensT29 : Opens Tryd.prog 29 k29 (fun x => ((Lit.int .i64 x.f0).wf = true ∧ (Lit.int .i64 x.f1).wf = true)) := by
 intro H enc W spare held fuel cs d ps h; obtain ⟨ys, n, _, hxx, hl, hlen, hf⟩ := DataW.trod_struct Tryd.underlying29 h; have hl : cs.length = 2 := hl.trans (by kernel_rfl); have hy : ys.length = 2 := hlen; have z0 : Tryd.prog.cellsOf 3 = 1 := by kernel_rfl
 have h0 := hf 0 _ rfl; rw [List.getElem?_eq_getElem (by omega)] at h0; replace h0 : DataW.trod enc Tryd.prog W 0 spare held n 3 ((cs.drop 0).take (Tryd.prog.cellsOf 3)) = some (ys[0]'(by omega)) := h0; rw [z0] at h0; obtain ⟨x0, e0, w0⟩ := (Opens.int Tryd.underlying3) enc W spare held n _ _ _ h0; have z1 : Tryd.prog.cellsOf 3 = 1 := by kernel_rfl
 have h1 := hf 1 _ rfl; rw [List.getElem?_eq_getElem (by omega)] at h1; replace h1 : DataW.trod enc Tryd.prog W 0 spare held n 3 ((cs.drop 1).take (Tryd.prog.cellsOf 3)) = some (ys[1]'(by omega)) := h1; rw [z1] at h1; obtain ⟨x1, e1, w1⟩ := (Opens.int Tryd.underlying3) enc W spare held n _ _ _ h1
 match cs, hl with
 | [c0, c1], _ =>
  replace e0 : [c0] = [.int .i64 x0] := e0; simp only [List.cons.injEq, and_true] at e0; replace e1 : [c1] = [.int .i64 x1] := e1; simp only [List.cons.injEq, and_true] at e1; exact ⟨⟨x0, x1⟩, by rw [e0, e1]; rfl, w0, w1⟩
set_option maxRecDepth 100000 in
theorem opensT31 : Opens Tryd.prog 31 k31 (fun x => ((Lit.int .i64 x.f0).wf = true ∧ (Lit.int .i64 x.f1).wf = true)) := by
 intro H enc W spare held fuel cs d ps h; obtain ⟨ys, n, _, hxx, hl, hlen, hf⟩ := DataW.trod_struct Tryd.underlying31 h; have hl : cs.length = 2 := hl.trans (by kernel_rfl); have hy : ys.length = 2 := hlen; have z0 : Tryd.prog.cellsOf 3 = 1 := by kernel_rfl
 have h0 := hf 0 _ rfl; rw [List.getElem?_eq_getElem (by omega)] at h0; replace h0 : DataW.trod enc Tryd.prog W 0 spare held n 3 ((cs.drop 0).take (Tryd.prog.cellsOf 3)) = some (ys[0]'(by omega)) := h0; rw [z0] at h0; obtain ⟨x0, e0, w0⟩ := (Opens.int Tryd.underlying3) enc W spare held n _ _ _ h0; have z1 : Tryd.prog.cellsOf 3 = 1 := by kernel_rfl
 have h1 := hf 1 _ rfl; rw [List.getElem?_eq_getElem (by omega)] at h1; replace h1 : DataW.trod enc Tryd.prog W 0 spare held n 3 ((cs.drop 1).take (Tryd.prog.cellsOf 3)) = some (ys[1]'(by omega)) := h1; rw [z1] at h1; obtain ⟨x1, e1, w1⟩ := (Opens.int Tryd.underlying3) enc W spare held n _ _ _ h1
 match cs, hl with
 | [c0, c1], _ =>
  replace e0 : [c0] = [.int .i64 x0] := e0; simp only [List.cons.injEq, and_true] at e0; replace e1 : [c1] = [.int .i64 x1] := e1; simp only [List.cons.injEq, and_true] at e1; exact ⟨⟨x0, x1⟩, by rw [e0, e1]; rfl, w0, w1⟩
set_option maxRecDepth 100000 in
theorem opensT33 : Opens Tryd.prog 33 k33 (fun x => ((Lit.int .i64 x.f0).wf = true ∧ (Lit.int .i64 x.f1).wf = true ∧ (Lit.int .i64 x.f2).wf = true ∧ (Lit.int .i64 x.f3).wf = true ∧ x.f4.size ≤ maxLen)) := by
 intro H enc W spare held fuel cs d ps h; obtain ⟨ys, n, _, hxx, hl, hlen, hf⟩ := DataW.trod_struct Tryd.underlying33 h; have hl : cs.length = 5 := hl.trans (by kernel_rfl); have hy : ys.length = 3 := hlen; have z0 : Tryd.prog.cellsOf 29 = 2 := by kernel_rfl
 have h0 := hf 0 _ rfl; rw [List.getElem?_eq_getElem (by omega)] at h0; replace h0 : DataW.trod enc Tryd.prog W 0 spare held n 29 ((cs.drop 0).take (Tryd.prog.cellsOf 29)) = some (ys[0]'(by omega)) := h0; rw [z0] at h0; obtain ⟨x0, e0, w0⟩ := opensT29 enc W spare held n _ _ _ h0; have z1 : Tryd.prog.cellsOf 31 = 2 := by kernel_rfl
 have h1 := hf 1 _ rfl; rw [List.getElem?_eq_getElem (by omega)] at h1; replace h1 : DataW.trod enc Tryd.prog W 0 spare held n 31 ((cs.drop 2).take (Tryd.prog.cellsOf 31)) = some (ys[1]'(by omega)) := h1; rw [z1] at h1; obtain ⟨x1, e1, w1⟩ := opensT31 enc W spare held n _ _ _ h1; have z2 : Tryd.prog.cellsOf 9 = 1 := by kernel_rfl
 have h2 := hf 2 _ rfl; rw [List.getElem?_eq_getElem (by omega)] at h2; replace h2 : DataW.trod enc Tryd.prog W 0 spare held n 9 ((cs.drop 4).take (Tryd.prog.cellsOf 9)) = some (ys[2]'(by omega)) := h2; rw [z2] at h2; obtain ⟨x2, e2, w2⟩ := (Opens.str Tryd.underlying9) enc W spare held n _ _ _ h2
 match cs, hl with
 | [c0, c1, c2, c3, c4], _ =>
  replace e0 : [c0, c1] = [.int .i64 x0.f0, .int .i64 x0.f1] := e0; simp only [List.cons.injEq, and_true] at e0; replace e1 : [c2, c3] = [.int .i64 x1.f0, .int .i64 x1.f1] := e1; simp only [List.cons.injEq, and_true] at e1; replace e2 : [c4] = [.string x2] := e2; simp only [List.cons.injEq, and_true] at e2; exact ⟨⟨x0.f0, x0.f1, x1.f0, x1.f1, x2⟩, by rw [e0.1, e0.2, e1.1, e1.2, e2]; rfl, w0.1, w0.2, w1.1, w1.2, w2⟩
set_option maxRecDepth 100000 in
theorem opensT36 : Opens Tryd.prog 36 k36 (fun x => ((Lit.int .i64 x.f0).wf = true ∧ (Lit.int .i64 x.f1).wf = true ∧ (Lit.int .i64 x.f2).wf = true ∧ (Lit.int .i64 x.f3).wf = true ∧ (Lit.int .i64 x.f4).wf = true ∧ (Lit.int .i64 x.f5).wf = true ∧ (Lit.int .i64 x.f6).wf = true ∧ x.f7.size ≤ maxLen ∧ (x.f8.length ≤ maxLen ∧ ∀ z0 ∈ x.f8, (Lit.int .i64 z0).wf = true))) := by
 intro H enc W spare held fuel cs d ps h; obtain ⟨ys, n, _, hxx, hl, hlen, hf⟩ := DataW.trod_struct Tryd.underlying36 h; have hl : cs.length = 9 := hl.trans (by kernel_rfl); have hy : ys.length = 5 := hlen; have z0 : Tryd.prog.cellsOf 3 = 1 := by kernel_rfl
 have h0 := hf 0 _ rfl; rw [List.getElem?_eq_getElem (by omega)] at h0; replace h0 : DataW.trod enc Tryd.prog W 0 spare held n 3 ((cs.drop 0).take (Tryd.prog.cellsOf 3)) = some (ys[0]'(by omega)) := h0; rw [z0] at h0; obtain ⟨x0, e0, w0⟩ := (Opens.int Tryd.underlying3) enc W spare held n _ _ _ h0; have z1 : Tryd.prog.cellsOf 3 = 1 := by kernel_rfl
 have h1 := hf 1 _ rfl; rw [List.getElem?_eq_getElem (by omega)] at h1; replace h1 : DataW.trod enc Tryd.prog W 0 spare held n 3 ((cs.drop 1).take (Tryd.prog.cellsOf 3)) = some (ys[1]'(by omega)) := h1; rw [z1] at h1; obtain ⟨x1, e1, w1⟩ := (Opens.int Tryd.underlying3) enc W spare held n _ _ _ h1; have z2 : Tryd.prog.cellsOf 3 = 1 := by kernel_rfl
 have h2 := hf 2 _ rfl; rw [List.getElem?_eq_getElem (by omega)] at h2; replace h2 : DataW.trod enc Tryd.prog W 0 spare held n 3 ((cs.drop 2).take (Tryd.prog.cellsOf 3)) = some (ys[2]'(by omega)) := h2; rw [z2] at h2; obtain ⟨x2, e2, w2⟩ := (Opens.int Tryd.underlying3) enc W spare held n _ _ _ h2; have z3 : Tryd.prog.cellsOf 33 = 5 := by kernel_rfl
 have h3 := hf 3 _ rfl; rw [List.getElem?_eq_getElem (by omega)] at h3; replace h3 : DataW.trod enc Tryd.prog W 0 spare held n 33 ((cs.drop 3).take (Tryd.prog.cellsOf 33)) = some (ys[3]'(by omega)) := h3; rw [z3] at h3; obtain ⟨x3, e3, w3⟩ := opensT33 enc W spare held n _ _ _ h3; have z4 : Tryd.prog.cellsOf 34 = 1 := by kernel_rfl
 have h4 := hf 4 _ rfl; rw [List.getElem?_eq_getElem (by omega)] at h4; replace h4 : DataW.trod enc Tryd.prog W 0 spare held n 34 ((cs.drop 8).take (Tryd.prog.cellsOf 34)) = some (ys[4]'(by omega)) := h4; rw [z4] at h4; obtain ⟨x4, e4, w4⟩ := (Opens.slice (kd := (kInt .i64)) Tryd.underlying34 (Opens.int Tryd.underlying3) (by kernel_rfl) (by decide)) enc W spare held n _ _ _ h4
 match cs, hl with
 | [c0, c1, c2, c3, c4, c5, c6, c7, c8], _ =>
  replace e0 : [c0] = [.int .i64 x0] := e0; simp only [List.cons.injEq, and_true] at e0; replace e1 : [c1] = [.int .i64 x1] := e1; simp only [List.cons.injEq, and_true] at e1; replace e2 : [c2] = [.int .i64 x2] := e2; simp only [List.cons.injEq, and_true] at e2; replace e3 : [c3, c4, c5, c6, c7] = [.int .i64 x3.f0, .int .i64 x3.f1, .int .i64 x3.f2, .int .i64 x3.f3, .string x3.f4] := e3; simp only [List.cons.injEq, and_true] at e3; exact ⟨⟨x0, x1, x2, x3.f0, x3.f1, x3.f2, x3.f3, x3.f4, x4⟩, ⟨[c0], _, rfl, (congrArg (fun z => [z]) e0), ⟨[c1], _, rfl, (congrArg (fun z => [z]) e1), ⟨[c2], _, rfl, (congrArg (fun z => [z]) e2), ⟨[c3], _, rfl, (congrArg (fun z => [z]) e3.1), ⟨[c4], _, rfl, (congrArg (fun z => [z]) e3.2.1), ⟨[c5], _, rfl, (congrArg (fun z => [z]) e3.2.2.1), ⟨[c6], _, rfl, (congrArg (fun z => [z]) e3.2.2.2.1), ⟨[c7], _, rfl, (congrArg (fun z => [z]) e3.2.2.2.2), e4⟩⟩⟩⟩⟩⟩⟩⟩, w0, w1, w2, w3.1, w3.2.1, w3.2.2.1, w3.2.2.2.1, w3.2.2.2.2, w4⟩
set_option maxRecDepth 100000 in
theorem lifted (os : Os) (started : os.Started) (H : Type) (enc : TypeId × Value → H) :
  ReturnsInHanded {} Tryd.checked os 3 .any ((fun w args => (Rows.stateOriginsSpec.pre enc Tryd.prog Tryd.f3 [] false w args ∧ laidMetH Tryd.prog Laid.list w) ∧ sizedMet enc Tryd.prog Tryd.f3 (OpenSpec.ofChange Rows.stateOriginsSpec) false w args)) (Rows.stateOriginsSpec.post enc Tryd.prog Tryd.f3 false true false false) := by
 refine returnsInHanded_of_change_and (C := Tryd.checked) (X := fun w _ => laidMetH Tryd.prog Laid.list w) (fun _ _ _ hh h => h.of_heap hh) own started (by kernel_rfl) Tryd.func3
  (ChangeSpec.witness_at (enc := enc) (C := Tryd.checked) (os := os) (X := fun w _ => laidMetH Tryd.prog Laid.list w) false (Laid.laidWorld os) #[.int .i64 0, .slice none 0 0] 8 rfl (by kernel_rfl) (by kernel_rfl) (by kernel_rfl) (by kernel_rfl) (by kernel_rfl) (Laid.met os _)) ?_
 intro W base args ds gs before hval0 hW hcnd hsz0 hL _; have hval : ∀ (j : Nat) t v, Tryd.f3.params[j]? = some t → args[j]? = some v → Value.okWide Tryd.prog W .any base t v := hval0; have hW' := hW; obtain ⟨p, q, hA0, hV, rfl, hfz, hnd⟩ := hW; have hA : DataW.TrodAll enc Tryd.prog W 0 (fun _ => true) true Tryd.f3.params.toList args.toList ds p := hA0; rw [Tryd.params3] at hA hval; obtain ⟨v0, vs0, d0, ds0, p0, q0, hargs, rfl, rfl, h0, r0⟩ := trodAll_cons hA; obtain ⟨v1, vs1, d1, ds1, p1, q1, rfl, rfl, rfl, h1, r1⟩ := trodAll_cons r0; obtain ⟨rfl, rfl, rfl⟩ := trodAll_nil r1; obtain rfl : args = #[v0, v1] := by cases args; simp_all
 obtain ⟨rfl, rfl⟩ := trodVars_none hV; obtain ⟨a0, rfl, rfl, rfl, w0⟩ := open_int Tryd.underlying3 (hval 0 3 v0 rfl rfl) h0; have k1 := h1; have lt1 : ∀ x ∈ p1, x.block < W.heap.size := by obtain ⟨m, hm⟩ := k1; exact DataW.trod_lt m _ _ _ hm
 obtain ⟨A1, n1, c1, rfl⟩ := okWide_slice Tryd.underlying22 (hval 1 22 v1 rfl rfl); obtain ⟨l1, ⟨B1, e1, eq1, H1⟩, w1⟩ : ∃ x, (kSlice k36).rel (heapG W) x (Value.slice A1 n1 c1).cells.toList ∧ (x.length ≤ maxLen ∧ ∀ z0 ∈ x, ((Lit.int .i64 z0.f0).wf = true ∧ (Lit.int .i64 z0.f1).wf = true ∧ (Lit.int .i64 z0.f2).wf = true ∧ (Lit.int .i64 z0.f3).wf = true ∧ (Lit.int .i64 z0.f4).wf = true ∧ (Lit.int .i64 z0.f5).wf = true ∧ (Lit.int .i64 z0.f6).wf = true ∧ z0.f7.size ≤ maxLen ∧ (z0.f8.length ≤ maxLen ∧ ∀ zz0_f8 ∈ z0.f8, (Lit.int .i64 zz0_f8).wf = true))) := by
  obtain ⟨m, hm⟩ := h1; exact (Opens.slice (kd := k36) Tryd.underlying22 opensT36 (by kernel_rfl) (by decide)) enc W _ _ m _ _ _ hm
 simp [Value.cells] at eq1; obtain ⟨rfl, rfl, rfl⟩ := eq1; clear hA0 hval0 hsz0; obtain ⟨k, hk⟩ := Pure.StateOrigins a0 l1 w0 w1; refine (Gf.grapevinelaw19_StateOrigins_calls (Gf.Tabs.start (Laid.tabs hL)) k a0 l1 A1 c1 H1 true hk (Inv.start W)).mono fun e W' hret => ?_
 obtain ⟨_, _, _, rfl, ⟨rfl, rfl, rfl⟩, hI⟩ := hret; have bel := hI.below; exact ⟨_, rfl, _, _, _, [], _, [], hW', trodAll_mk1 (shut_bool Tryd.underlying4 _), (trodAll_cons_mk (shut_int Tryd.underlying3 w0) (trodAll_cons_mk (Below.trod laidOut (by kernel_rfl) (of_decide_eq_true (by kernel_rfl)) k1 bel lt1) trodAll_mk0)), rfl, bel.frame _, fun h => by cases h⟩
theorem over : Rows.stateOriginsRow.holds Tryd.pinned (OpenSpec.ofChange Rows.stateOriginsSpec) :=
 OpenClaim.holds_of_wide 3 Tryd.f3 rfl rfl rfl rfl rfl rfl rfl ⟨rfl, rfl, rfl, rfl, rfl⟩ rfl rfl rfl rfl rfl (by kernel_rfl) Tryd.func3 (by kernel_rfl)
  (of_decide_eq_true (by kernel_rfl)) (by unfold Func.isWrapper; first | (rw [if_pos (by decide +kernel)]; kernel_rfl) | (rw [if_neg (by decide +kernel)]; exact ⟨rfl, rfl⟩))
  (fun os started H enc _ => lifted os started H enc)
end Go.Proofs.YtbifgnloeopdaaaDoor.stateOrigins
namespace Go.Proofs.YtbifgnloeopdaaaDoor
theorem stateOrigins_holds : Rows.StateOriginsCardSaid :=
 Claim7.holds_tied_plain_at .later [] [.data, .pinned] true (true, "7ab23d06ebd4f36dad3c690ce55aa3d3e6e6928954729642f3d8b8e92ce61751") true
  stateOrigins.over (fun _ h => by cases h) (by kernel_rfl) (fun _ h => by cases h) stateOrigins_row_tie rfl ⟨rfl, rfl⟩ (by kernel_rfl) rfl
  (fun f fn hf hfn => by
   obtain rfl : f = 3 := Option.some.inj ((show Tryd.prog.funcNamed Rows.stateOriginsRow.func = some 3 by kernel_rfl).symm.trans hf) |>.symm; obtain rfl : fn = Tryd.f3 := (Option.some.inj (Tryd.func3.symm.trans hfn)).symm; exact ⟨by kernel_rfl, fun j t ht => Laid.stand (p := Tryd.prog) (ps := Tryd.f3.params) (by kernel_rfl) j t ht⟩)
  (by kernel_rfl)
#print axioms stateOrigins_holds
end Go.Proofs.YtbifgnloeopdaaaDoor
