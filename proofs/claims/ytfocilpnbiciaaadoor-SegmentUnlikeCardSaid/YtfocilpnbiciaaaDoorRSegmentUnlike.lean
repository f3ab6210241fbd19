/- The row of SegmentUnlike, out of its walk and its plain law. Written by gg.py of this repo. -/
import Derived.Test.YtfocilpnbiciaaaDoorRows
import Derived.Test.YtfocilpnbiciaaaDoorLSegmentUnlike
import Derived.Test.YtfocilpnbiciaaaDoorPSegmentUnlike
import Derived.Test.YtfocilpnbiciaaaDoorGgJ
import Derived.Test.YtfocilpnbiciaaaDoorW
import Derived.Test.YtfocilpnbiciaaaDoorTie
import Derived.Test.YtfocilpnbiciaaaDoorCards
import Derived.ChangeSame
import Derived.ChangeVars
import Derived.JoinedOf
import Derived.RowKit
import Derived.RowKitTokens
import Derived.Stop.Joined
import Derived.SevenTiedAt
namespace Go.Proofs.YtfocilpnbiciaaaDoor.segmentUnlike
open Go.ChangeShapes Go.WideShapes Go.ChangeAt Go.RowKit Go.Gg
open Go.ChangeMaps (open_string shut_string)
set_option linter.unusedVariables false
theorem own : ownKnob Tryd.prog.godebug = none := by kernel_rfl
theorem laidOut : laidOutB Tryd.prog = true := by kernel_rfl
open Go.Proofs.YtfocilpnbiciaaaDoor.Gf
set_option maxRecDepth 100000 in
theorem opensT35 : Opens Tryd.prog 35 k35 (fun x => ((Lit.int .i64 x.f0).wf = true ∧ (Lit.int .i64 x.f1).wf = true)) := by
  intro H enc W spare held fuel cs d ps h
  obtain ⟨ys, n, _, _, hl, hlen, hf⟩ := DataW.trod_struct Tryd.underlying35 h
  have hl : cs.length = 2 := hl.trans (by kernel_rfl)
  have hy : ys.length = 2 := hlen
  have z0 : Tryd.prog.cellsOf 3 = 1 := by kernel_rfl
  have h0 := hf 0 _ rfl
  rw [List.getElem?_eq_getElem (by omega)] at h0
  replace h0 : DataW.trod enc Tryd.prog W 0 spare held n 3 ((cs.drop 0).take (Tryd.prog.cellsOf 3)) = some (ys[0]'(by omega)) := h0
  rw [z0] at h0
  obtain ⟨x0, e0, w0⟩ := (Opens.int Tryd.underlying3) enc W spare held n _ _ _ h0
  have z1 : Tryd.prog.cellsOf 3 = 1 := by kernel_rfl
  have h1 := hf 1 _ rfl
  rw [List.getElem?_eq_getElem (by omega)] at h1
  replace h1 : DataW.trod enc Tryd.prog W 0 spare held n 3 ((cs.drop 1).take (Tryd.prog.cellsOf 3)) = some (ys[1]'(by omega)) := h1
  rw [z1] at h1
  obtain ⟨x1, e1, w1⟩ := (Opens.int Tryd.underlying3) enc W spare held n _ _ _ h1
  match cs, hl with
  | [c0, c1], _ =>
    replace e0 : [c0] = [.int .i64 x0] := e0
    simp only [List.cons.injEq, and_true] at e0
    replace e1 : [c1] = [.int .i64 x1] := e1
    simp only [List.cons.injEq, and_true] at e1
    exact ⟨⟨x0, x1⟩, by rw [e0, e1]; rfl, w0, w1⟩
set_option maxRecDepth 100000 in
theorem opensT37 : Opens Tryd.prog 37 k37 (fun x => ((Lit.int .i64 x.f0).wf = true ∧ (Lit.int .i64 x.f1).wf = true)) := by
  intro H enc W spare held fuel cs d ps h
  obtain ⟨ys, n, _, _, hl, hlen, hf⟩ := DataW.trod_struct Tryd.underlying37 h
  have hl : cs.length = 2 := hl.trans (by kernel_rfl)
  have hy : ys.length = 2 := hlen
  have z0 : Tryd.prog.cellsOf 3 = 1 := by kernel_rfl
  have h0 := hf 0 _ rfl
  rw [List.getElem?_eq_getElem (by omega)] at h0
  replace h0 : DataW.trod enc Tryd.prog W 0 spare held n 3 ((cs.drop 0).take (Tryd.prog.cellsOf 3)) = some (ys[0]'(by omega)) := h0
  rw [z0] at h0
  obtain ⟨x0, e0, w0⟩ := (Opens.int Tryd.underlying3) enc W spare held n _ _ _ h0
  have z1 : Tryd.prog.cellsOf 3 = 1 := by kernel_rfl
  have h1 := hf 1 _ rfl
  rw [List.getElem?_eq_getElem (by omega)] at h1
  replace h1 : DataW.trod enc Tryd.prog W 0 spare held n 3 ((cs.drop 1).take (Tryd.prog.cellsOf 3)) = some (ys[1]'(by omega)) := h1
  rw [z1] at h1
  obtain ⟨x1, e1, w1⟩ := (Opens.int Tryd.underlying3) enc W spare held n _ _ _ h1
  match cs, hl with
  | [c0, c1], _ =>
    replace e0 : [c0] = [.int .i64 x0] := e0
    simp only [List.cons.injEq, and_true] at e0
    replace e1 : [c1] = [.int .i64 x1] := e1
    simp only [List.cons.injEq, and_true] at e1
    exact ⟨⟨x0, x1⟩, by rw [e0, e1]; rfl, w0, w1⟩
set_option maxRecDepth 100000 in
theorem opensT39 : Opens Tryd.prog 39 k39 (fun x => ((Lit.int .i64 x.f0).wf = true ∧ (Lit.int .i64 x.f1).wf = true ∧ (Lit.int .i64 x.f2).wf = true ∧ (Lit.int .i64 x.f3).wf = true ∧ x.f4.size ≤ maxLen)) := by
  intro H enc W spare held fuel cs d ps h
  obtain ⟨ys, n, _, _, hl, hlen, hf⟩ := DataW.trod_struct Tryd.underlying39 h
  have hl : cs.length = 5 := hl.trans (by kernel_rfl)
  have hy : ys.length = 3 := hlen
  have z0 : Tryd.prog.cellsOf 35 = 2 := by kernel_rfl
  have h0 := hf 0 _ rfl
  rw [List.getElem?_eq_getElem (by omega)] at h0
  replace h0 : DataW.trod enc Tryd.prog W 0 spare held n 35 ((cs.drop 0).take (Tryd.prog.cellsOf 35)) = some (ys[0]'(by omega)) := h0
  rw [z0] at h0
  obtain ⟨x0, e0, w0⟩ := opensT35 enc W spare held n _ _ _ h0
  have z1 : Tryd.prog.cellsOf 37 = 2 := by kernel_rfl
  have h1 := hf 1 _ rfl
  rw [List.getElem?_eq_getElem (by omega)] at h1
  replace h1 : DataW.trod enc Tryd.prog W 0 spare held n 37 ((cs.drop 2).take (Tryd.prog.cellsOf 37)) = some (ys[1]'(by omega)) := h1
  rw [z1] at h1
  obtain ⟨x1, e1, w1⟩ := opensT37 enc W spare held n _ _ _ h1
  have z2 : Tryd.prog.cellsOf 9 = 1 := by kernel_rfl
  have h2 := hf 2 _ rfl
  rw [List.getElem?_eq_getElem (by omega)] at h2
  replace h2 : DataW.trod enc Tryd.prog W 0 spare held n 9 ((cs.drop 4).take (Tryd.prog.cellsOf 9)) = some (ys[2]'(by omega)) := h2
  rw [z2] at h2
  obtain ⟨x2, e2, w2⟩ := (Opens.str Tryd.underlying9) enc W spare held n _ _ _ h2
  match cs, hl with
  | [c0, c1, c2, c3, c4], _ =>
    replace e0 : [c0, c1] = [.int .i64 x0.f0, .int .i64 x0.f1] := e0
    simp only [List.cons.injEq, and_true] at e0
    replace e1 : [c2, c3] = [.int .i64 x1.f0, .int .i64 x1.f1] := e1
    simp only [List.cons.injEq, and_true] at e1
    replace e2 : [c4] = [.string x2] := e2
    simp only [List.cons.injEq, and_true] at e2
    exact ⟨⟨x0.f0, x0.f1, x1.f0, x1.f1, x2⟩, by rw [e0.1, e0.2, e1.1, e1.2, e2]; rfl, w0.1, w0.2, w1.1, w1.2, w2⟩
set_option maxRecDepth 100000 in
theorem opensT41 : Opens Tryd.prog 41 k41 (fun x => ((Lit.int .i64 x.f0).wf = true ∧ (x.f1.length ≤ maxLen ∧ ∀ z0 ∈ x.f1, (Lit.int .i64 z0).wf = true) ∧ (x.f2.length ≤ maxLen ∧ ∀ z0 ∈ x.f2, (Lit.int .i64 z0).wf = true) ∧ (Lit.int .i64 x.f3).wf = true ∧ (Lit.int .i64 x.f4).wf = true ∧ (Lit.int .i64 x.f5).wf = true ∧ (Lit.int .i64 x.f6).wf = true ∧ x.f7.size ≤ maxLen)) := by
  intro H enc W spare held fuel cs d ps h
  obtain ⟨ys, n, _, _, hl, hlen, hf⟩ := DataW.trod_struct Tryd.underlying41 h
  have hl : cs.length = 8 := hl.trans (by kernel_rfl)
  have hy : ys.length = 4 := hlen
  have z0 : Tryd.prog.cellsOf 3 = 1 := by kernel_rfl
  have h0 := hf 0 _ rfl
  rw [List.getElem?_eq_getElem (by omega)] at h0
  replace h0 : DataW.trod enc Tryd.prog W 0 spare held n 3 ((cs.drop 0).take (Tryd.prog.cellsOf 3)) = some (ys[0]'(by omega)) := h0
  rw [z0] at h0
  obtain ⟨x0, e0, w0⟩ := (Opens.int Tryd.underlying3) enc W spare held n _ _ _ h0
  have z1 : Tryd.prog.cellsOf 32 = 1 := by kernel_rfl
  have h1 := hf 1 _ rfl
  rw [List.getElem?_eq_getElem (by omega)] at h1
  replace h1 : DataW.trod enc Tryd.prog W 0 spare held n 32 ((cs.drop 1).take (Tryd.prog.cellsOf 32)) = some (ys[1]'(by omega)) := h1
  rw [z1] at h1
  obtain ⟨x1, e1, w1⟩ := (Opens.slice (kd := (kInt .i64)) Tryd.underlying32 (Opens.int Tryd.underlying3) (by kernel_rfl) (by decide)) enc W spare held n _ _ _ h1
  have z2 : Tryd.prog.cellsOf 32 = 1 := by kernel_rfl
  have h2 := hf 2 _ rfl
  rw [List.getElem?_eq_getElem (by omega)] at h2
  replace h2 : DataW.trod enc Tryd.prog W 0 spare held n 32 ((cs.drop 2).take (Tryd.prog.cellsOf 32)) = some (ys[2]'(by omega)) := h2
  rw [z2] at h2
  obtain ⟨x2, e2, w2⟩ := (Opens.slice (kd := (kInt .i64)) Tryd.underlying32 (Opens.int Tryd.underlying3) (by kernel_rfl) (by decide)) enc W spare held n _ _ _ h2
  have z3 : Tryd.prog.cellsOf 39 = 5 := by kernel_rfl
  have h3 := hf 3 _ rfl
  rw [List.getElem?_eq_getElem (by omega)] at h3
  replace h3 : DataW.trod enc Tryd.prog W 0 spare held n 39 ((cs.drop 3).take (Tryd.prog.cellsOf 39)) = some (ys[3]'(by omega)) := h3
  rw [z3] at h3
  obtain ⟨x3, e3, w3⟩ := opensT39 enc W spare held n _ _ _ h3
  match cs, hl with
  | [c0, c1, c2, c3, c4, c5, c6, c7], _ =>
    replace e0 : [c0] = [.int .i64 x0] := e0
    simp only [List.cons.injEq, and_true] at e0
    replace e3 : [c3, c4, c5, c6, c7] = [.int .i64 x3.f0, .int .i64 x3.f1, .int .i64 x3.f2, .int .i64 x3.f3, .string x3.f4] := e3
    simp only [List.cons.injEq, and_true] at e3
    exact ⟨⟨x0, x1, x2, x3.f0, x3.f1, x3.f2, x3.f3, x3.f4⟩, ⟨[c0], _, rfl, (congrArg (fun z => [z]) e0), ⟨[c1], _, rfl, e1, ⟨[c2], _, rfl, e2, ⟨[c3], _, rfl, (congrArg (fun z => [z]) e3.1), ⟨[c4], _, rfl, (congrArg (fun z => [z]) e3.2.1), ⟨[c5], _, rfl, (congrArg (fun z => [z]) e3.2.2.1), ⟨[c6], _, rfl, (congrArg (fun z => [z]) e3.2.2.2.1), (congrArg (fun z => [z]) e3.2.2.2.2)⟩⟩⟩⟩⟩⟩⟩, w0, w1, w2, w3.1, w3.2.1, w3.2.2.1, w3.2.2.2.1, w3.2.2.2.2⟩
set_option maxRecDepth 100000 in
theorem lifted (os : Os) (started : os.Started) (H : Type) (enc : TypeId × Value → H) :
    ReturnsInHanded {} Tryd.checked os 5 .any ((fun w args => (Rows.segmentUnlikeSpec.pre enc Tryd.prog Tryd.f5 [] false w args ∧ laidMetH Tryd.prog Laid.list w) ∧ sizedMet enc Tryd.prog Tryd.f5 (OpenSpec.ofChange Rows.segmentUnlikeSpec) false w args)) (Rows.segmentUnlikeSpec.post enc Tryd.prog Tryd.f5 false true false false) := by
  refine returnsInHanded_of_change_and (C := Tryd.checked) (X := fun w _ => laidMetH Tryd.prog Laid.list w) (fun _ _ _ hh h => h.of_heap hh) own started (by kernel_rfl) Tryd.func5
    (ChangeSpec.witness_at (enc := enc) (C := Tryd.checked) (os := os) (X := fun w _ => laidMetH Tryd.prog Laid.list w) false (Laid.laidWorld os) #[.agg #[.int .i64 0, .slice none 0 0, .slice none 0 0, .int .i64 0, .int .i64 0, .int .i64 0, .int .i64 0, .string ByteArray.empty], .agg #[.int .i64 0, .slice none 0 0, .slice none 0 0, .int .i64 0, .int .i64 0, .int .i64 0, .int .i64 0, .string ByteArray.empty], .int .i64 0] 8 rfl (by kernel_rfl) (by kernel_rfl) (by kernel_rfl) (by kernel_rfl) (by kernel_rfl) (Laid.met os _)) ?_
  intro W base args ds gs before hval0 hW hcnd hsz0 hL _
  have hval : ∀ (j : Nat) t v, Tryd.f5.params[j]? = some t → args[j]? = some v → Value.okWide Tryd.prog W .any base t v := hval0
  have hW' := hW
  obtain ⟨p, q, hA0, hV, rfl, hfz, hnd⟩ := hW
  have hA : DataW.TrodAll enc Tryd.prog W 0 (fun _ => true) true Tryd.f5.params.toList args.toList ds p := hA0
  rw [Tryd.params5] at hA hval
  obtain ⟨v0, vs0, d0, ds0, p0, q0, hargs, rfl, rfl, h0, r0⟩ := trodAll_cons hA
  obtain ⟨v1, vs1, d1, ds1, p1, q1, rfl, rfl, rfl, h1, r1⟩ := trodAll_cons r0
  obtain ⟨v2, vs2, d2, ds2, p2, q2, rfl, rfl, rfl, h2, r2⟩ := trodAll_cons r1
  obtain ⟨rfl, rfl, rfl⟩ := trodAll_nil r2
  obtain rfl : args = #[v0, v1, v2] := by cases args; simp_all
  obtain ⟨rfl, rfl⟩ := trodVars_none hV
  have k0 := h0
  have lt0 : ∀ x ∈ p0, x.block < W.heap.size := by obtain ⟨m, hm⟩ := k0; exact DataW.trod_lt m _ _ _ hm
  obtain ⟨cs0, rfl, _⟩ := okWide_struct Tryd.underlying41 (hval 0 41 v0 rfl rfl)
  obtain ⟨a0, e0, w0⟩ : ∃ x, k41.rel (heapG W) x (Value.agg cs0).cells.toList ∧ ((Lit.int .i64 x.f0).wf = true ∧ (x.f1.length ≤ maxLen ∧ ∀ z0 ∈ x.f1, (Lit.int .i64 z0).wf = true) ∧ (x.f2.length ≤ maxLen ∧ ∀ z0 ∈ x.f2, (Lit.int .i64 z0).wf = true) ∧ (Lit.int .i64 x.f3).wf = true ∧ (Lit.int .i64 x.f4).wf = true ∧ (Lit.int .i64 x.f5).wf = true ∧ (Lit.int .i64 x.f6).wf = true ∧ x.f7.size ≤ maxLen) := by
    obtain ⟨m, hm⟩ := h0
    exact opensT41 enc W _ _ m _ _ _ hm
  obtain ⟨A0_1, c0_1, A0_2, c0_2, eq0, H0_1, H0_2⟩ : ∃ A0_1 c0_1, ∃ A0_2 c0_2, cs0.toList = [.int .i64 a0.f0, .slice A0_1 a0.f1.length c0_1, .slice A0_2 a0.f2.length c0_2, .int .i64 a0.f3, .int .i64 a0.f4, .int .i64 a0.f5, .int .i64 a0.f6, .string a0.f7] ∧ Rd (kInt .i64) (heapG W) A0_1 c0_1 a0.f1 ∧ Rd (kInt .i64) (heapG W) A0_2 c0_2 a0.f2 := by
    obtain ⟨L0, hL0⟩ : ∃ l, l = cs0.toList := ⟨_, rfl⟩
    replace e0 : k41.rel (heapG W) a0 cs0.toList := e0
    rw [← hL0] at e0 ⊢
    obtain ⟨_, _, rfl, rfl, ⟨_, _, rfl, ⟨A0_1, c0_1, rfl, H0_1⟩, ⟨_, _, rfl, ⟨A0_2, c0_2, rfl, H0_2⟩, ⟨_, _, rfl, rfl, ⟨_, _, rfl, rfl, ⟨_, _, rfl, rfl, ⟨_, _, rfl, rfl, rfl⟩⟩⟩⟩⟩⟩⟩ := e0
    exact ⟨_, _, _, _, rfl, H0_1, H0_2⟩
  obtain rfl : cs0 = #[.int .i64 a0.f0, .slice A0_1 a0.f1.length c0_1, .slice A0_2 a0.f2.length c0_2, .int .i64 a0.f3, .int .i64 a0.f4, .int .i64 a0.f5, .int .i64 a0.f6, .string a0.f7] := Array.toList_inj.1 eq0
  have k1 := h1
  have lt1 : ∀ x ∈ p1, x.block < W.heap.size := by obtain ⟨m, hm⟩ := k1; exact DataW.trod_lt m _ _ _ hm
  obtain ⟨cs1, rfl, _⟩ := okWide_struct Tryd.underlying41 (hval 1 41 v1 rfl rfl)
  obtain ⟨a1, e1, w1⟩ : ∃ x, k41.rel (heapG W) x (Value.agg cs1).cells.toList ∧ ((Lit.int .i64 x.f0).wf = true ∧ (x.f1.length ≤ maxLen ∧ ∀ z0 ∈ x.f1, (Lit.int .i64 z0).wf = true) ∧ (x.f2.length ≤ maxLen ∧ ∀ z0 ∈ x.f2, (Lit.int .i64 z0).wf = true) ∧ (Lit.int .i64 x.f3).wf = true ∧ (Lit.int .i64 x.f4).wf = true ∧ (Lit.int .i64 x.f5).wf = true ∧ (Lit.int .i64 x.f6).wf = true ∧ x.f7.size ≤ maxLen) := by
    obtain ⟨m, hm⟩ := h1
    exact opensT41 enc W _ _ m _ _ _ hm
  obtain ⟨A1_1, c1_1, A1_2, c1_2, eq1, H1_1, H1_2⟩ : ∃ A1_1 c1_1, ∃ A1_2 c1_2, cs1.toList = [.int .i64 a1.f0, .slice A1_1 a1.f1.length c1_1, .slice A1_2 a1.f2.length c1_2, .int .i64 a1.f3, .int .i64 a1.f4, .int .i64 a1.f5, .int .i64 a1.f6, .string a1.f7] ∧ Rd (kInt .i64) (heapG W) A1_1 c1_1 a1.f1 ∧ Rd (kInt .i64) (heapG W) A1_2 c1_2 a1.f2 := by
    obtain ⟨L1, hL1⟩ : ∃ l, l = cs1.toList := ⟨_, rfl⟩
    replace e1 : k41.rel (heapG W) a1 cs1.toList := e1
    rw [← hL1] at e1 ⊢
    obtain ⟨_, _, rfl, rfl, ⟨_, _, rfl, ⟨A1_1, c1_1, rfl, H1_1⟩, ⟨_, _, rfl, ⟨A1_2, c1_2, rfl, H1_2⟩, ⟨_, _, rfl, rfl, ⟨_, _, rfl, rfl, ⟨_, _, rfl, rfl, ⟨_, _, rfl, rfl, rfl⟩⟩⟩⟩⟩⟩⟩ := e1
    exact ⟨_, _, _, _, rfl, H1_1, H1_2⟩
  obtain rfl : cs1 = #[.int .i64 a1.f0, .slice A1_1 a1.f1.length c1_1, .slice A1_2 a1.f2.length c1_2, .int .i64 a1.f3, .int .i64 a1.f4, .int .i64 a1.f5, .int .i64 a1.f6, .string a1.f7] := Array.toList_inj.1 eq1
  obtain ⟨a2, rfl, rfl, rfl, w2⟩ := open_int Tryd.underlying3 (hval 2 3 v2 rfl rfl) h2
  clear hA0 hval0 hsz0
  obtain ⟨k, hk⟩ := Pure.SegmentUnlike a0 a1 a2 w0 w1 w2
  refine (Gf.grapevinelaw8_SegmentUnlike_calls (U8.start (Laid.tabs hL)) k a0 a1 a2 A0_1 c0_1 H0_1 A0_2 c0_2 H0_2 A1_1 c1_1 H1_1 A1_2 c1_2 H1_2 true hk (Inv.start W)).mono fun e W' hret => ?_
  obtain ⟨_, _, _, rfl, ⟨rfl, rfl, rfl⟩, hI⟩ := hret
  have bel := hI.below
  exact ⟨_, rfl, _, _, _, [], _, [], hW', trodAll_mk1 (shut_bool Tryd.underlying4 _), (trodAll_cons_mk (Below.trod laidOut (by kernel_rfl) (of_decide_eq_true (by kernel_rfl)) k0 bel lt0) (trodAll_cons_mk (Below.trod laidOut (by kernel_rfl) (of_decide_eq_true (by kernel_rfl)) k1 bel lt1) (trodAll_cons_mk (shut_int Tryd.underlying3 w2) trodAll_mk0))), rfl, bel.frame _, fun h => by cases h⟩
theorem over : Rows.segmentUnlikeRow.holds Tryd.pinned (OpenSpec.ofChange Rows.segmentUnlikeSpec) :=
  OpenClaim.holds_of_wide 5 Tryd.f5 rfl rfl rfl rfl rfl rfl rfl ⟨rfl, rfl, rfl, rfl, rfl⟩ rfl rfl rfl rfl rfl (by kernel_rfl) Tryd.func5 (by kernel_rfl)
    (of_decide_eq_true (by kernel_rfl)) (by unfold Func.isWrapper; first | (rw [if_pos (by decide +kernel)]; kernel_rfl) | (rw [if_neg (by decide +kernel)]; exact ⟨rfl, rfl⟩))
    (fun os started H enc _ => lifted os started H enc)
end Go.Proofs.YtfocilpnbiciaaaDoor.segmentUnlike
namespace Go.Proofs.YtfocilpnbiciaaaDoor
theorem segmentUnlike_holds : Rows.SegmentUnlikeCardSaid :=
  Claim7.holds_tied_plain_at .later [] [.data, .pinned] true (true, "82a483a171e6342dd9b53beacbce4a2b5c235689f713ed2aac62c19d076ec4de") false
    segmentUnlike.over (fun _ h => by cases h) (by kernel_rfl) (fun _ h => by cases h) segmentUnlike_row_tie rfl ⟨rfl, rfl⟩ (by kernel_rfl) rfl
    (fun f fn hf hfn => by
      obtain rfl : f = 5 := Option.some.inj ((show Tryd.prog.funcNamed Rows.segmentUnlikeRow.func = some 5 by kernel_rfl).symm.trans hf) |>.symm
      obtain rfl : fn = Tryd.f5 := (Option.some.inj (Tryd.func5.symm.trans hfn)).symm
      exact ⟨by kernel_rfl, fun j t ht => Laid.stand (p := Tryd.prog) (ps := Tryd.f5.params) (by kernel_rfl) j t ht⟩)
    (by kernel_rfl)
#print axioms segmentUnlike_holds
end Go.Proofs.YtfocilpnbiciaaaDoor
