/- The row of TalkSpoilt, out of its walk and its plain law. Written by gg.py of this repo. -/
import Derived.Test.YtfocilpnbiciaaaDoorRows
import Derived.Test.YtfocilpnbiciaaaDoorLTalkSpoilt
import Derived.Test.YtfocilpnbiciaaaDoorPTalkSpoilt
import Derived.Test.YtfocilpnbiciaaaDoorGgJ
import Derived.Test.YtfocilpnbiciaaaDoorW
import Derived.Test.YtfocilpnbiciaaaDoorTie
import Derived.Test.YtfocilpnbiciaaaDoorCards
import Derived.ChangeSame
import Derived.ChangeVars
import Derived.JoinedOf
import Derived.RowKit
import Derived.RowKitTokens
import Derived.Stop.Joined
import Derived.SevenTiedAt
namespace Go.Proofs.YtfocilpnbiciaaaDoor.talkSpoilt
open Go.ChangeShapes Go.WideShapes Go.ChangeAt Go.RowKit Go.Gg
open Go.ChangeMaps (open_string shut_string)
set_option linter.unusedVariables false
theorem own : ownKnob Tryd.prog.godebug = none := by kernel_rfl
theorem laidOut : laidOutB Tryd.prog = true := by kernel_rfl
open Go.Proofs.YtfocilpnbiciaaaDoor.Gf
set_option maxRecDepth 100000 in
theorem opensT35 : Opens Tryd.prog 35 k35 (fun x => ((Lit.int .i64 x.f0).wf = true ∧ (Lit.int .i64 x.f1).wf = true)) := by
  intro H enc W spare held fuel cs d ps h
  obtain ⟨ys, n, _, _, hl, hlen, hf⟩ := DataW.trod_struct Tryd.underlying35 h
  have hl : cs.length = 2 := hl.trans (by kernel_rfl)
  have hy : ys.length = 2 := hlen
  have z0 : Tryd.prog.cellsOf 3 = 1 := by kernel_rfl
  have h0 := hf 0 _ rfl
  rw [List.getElem?_eq_getElem (by omega)] at h0
  replace h0 : DataW.trod enc Tryd.prog W 0 spare held n 3 ((cs.drop 0).take (Tryd.prog.cellsOf 3)) = some (ys[0]'(by omega)) := h0
  rw [z0] at h0
  obtain ⟨x0, e0, w0⟩ := (Opens.int Tryd.underlying3) enc W spare held n _ _ _ h0
  have z1 : Tryd.prog.cellsOf 3 = 1 := by kernel_rfl
  have h1 := hf 1 _ rfl
  rw [List.getElem?_eq_getElem (by omega)] at h1
  replace h1 : DataW.trod enc Tryd.prog W 0 spare held n 3 ((cs.drop 1).take (Tryd.prog.cellsOf 3)) = some (ys[1]'(by omega)) := h1
  rw [z1] at h1
  obtain ⟨x1, e1, w1⟩ := (Opens.int Tryd.underlying3) enc W spare held n _ _ _ h1
  match cs, hl with
  | [c0, c1], _ =>
    replace e0 : [c0] = [.int .i64 x0] := e0
    simp only [List.cons.injEq, and_true] at e0
    replace e1 : [c1] = [.int .i64 x1] := e1
    simp only [List.cons.injEq, and_true] at e1
    exact ⟨⟨x0, x1⟩, by rw [e0, e1]; rfl, w0, w1⟩
set_option maxRecDepth 100000 in
theorem opensT37 : Opens Tryd.prog 37 k37 (fun x => ((Lit.int .i64 x.f0).wf = true ∧ (Lit.int .i64 x.f1).wf = true)) := by
  intro H enc W spare held fuel cs d ps h
  obtain ⟨ys, n, _, _, hl, hlen, hf⟩ := DataW.trod_struct Tryd.underlying37 h
  have hl : cs.length = 2 := hl.trans (by kernel_rfl)
  have hy : ys.length = 2 := hlen
  have z0 : Tryd.prog.cellsOf 3 = 1 := by kernel_rfl
  have h0 := hf 0 _ rfl
  rw [List.getElem?_eq_getElem (by omega)] at h0
  replace h0 : DataW.trod enc Tryd.prog W 0 spare held n 3 ((cs.drop 0).take (Tryd.prog.cellsOf 3)) = some (ys[0]'(by omega)) := h0
  rw [z0] at h0
  obtain ⟨x0, e0, w0⟩ := (Opens.int Tryd.underlying3) enc W spare held n _ _ _ h0
  have z1 : Tryd.prog.cellsOf 3 = 1 := by kernel_rfl
  have h1 := hf 1 _ rfl
  rw [List.getElem?_eq_getElem (by omega)] at h1
  replace h1 : DataW.trod enc Tryd.prog W 0 spare held n 3 ((cs.drop 1).take (Tryd.prog.cellsOf 3)) = some (ys[1]'(by omega)) := h1
  rw [z1] at h1
  obtain ⟨x1, e1, w1⟩ := (Opens.int Tryd.underlying3) enc W spare held n _ _ _ h1
  match cs, hl with
  | [c0, c1], _ =>
    replace e0 : [c0] = [.int .i64 x0] := e0
    simp only [List.cons.injEq, and_true] at e0
    replace e1 : [c1] = [.int .i64 x1] := e1
    simp only [List.cons.injEq, and_true] at e1
    exact ⟨⟨x0, x1⟩, by rw [e0, e1]; rfl, w0, w1⟩
set_option maxRecDepth 100000 in
theorem opensT39 : Opens Tryd.prog 39 k39 (fun x => ((Lit.int .i64 x.f0).wf = true ∧ (Lit.int .i64 x.f1).wf = true ∧ (Lit.int .i64 x.f2).wf = true ∧ (Lit.int .i64 x.f3).wf = true ∧ x.f4.size ≤ maxLen)) := by
  intro H enc W spare held fuel cs d ps h
  obtain ⟨ys, n, _, _, hl, hlen, hf⟩ := DataW.trod_struct Tryd.underlying39 h
  have hl : cs.length = 5 := hl.trans (by kernel_rfl)
  have hy : ys.length = 3 := hlen
  have z0 : Tryd.prog.cellsOf 35 = 2 := by kernel_rfl
  have h0 := hf 0 _ rfl
  rw [List.getElem?_eq_getElem (by omega)] at h0
  replace h0 : DataW.trod enc Tryd.prog W 0 spare held n 35 ((cs.drop 0).take (Tryd.prog.cellsOf 35)) = some (ys[0]'(by omega)) := h0
  rw [z0] at h0
  obtain ⟨x0, e0, w0⟩ := opensT35 enc W spare held n _ _ _ h0
  have z1 : Tryd.prog.cellsOf 37 = 2 := by kernel_rfl
  have h1 := hf 1 _ rfl
  rw [List.getElem?_eq_getElem (by omega)] at h1
  replace h1 : DataW.trod enc Tryd.prog W 0 spare held n 37 ((cs.drop 2).take (Tryd.prog.cellsOf 37)) = some (ys[1]'(by omega)) := h1
  rw [z1] at h1
  obtain ⟨x1, e1, w1⟩ := opensT37 enc W spare held n _ _ _ h1
  have z2 : Tryd.prog.cellsOf 9 = 1 := by kernel_rfl
  have h2 := hf 2 _ rfl
  rw [List.getElem?_eq_getElem (by omega)] at h2
  replace h2 : DataW.trod enc Tryd.prog W 0 spare held n 9 ((cs.drop 4).take (Tryd.prog.cellsOf 9)) = some (ys[2]'(by omega)) := h2
  rw [z2] at h2
  obtain ⟨x2, e2, w2⟩ := (Opens.str Tryd.underlying9) enc W spare held n _ _ _ h2
  match cs, hl with
  | [c0, c1, c2, c3, c4], _ =>
    replace e0 : [c0, c1] = [.int .i64 x0.f0, .int .i64 x0.f1] := e0
    simp only [List.cons.injEq, and_true] at e0
    replace e1 : [c2, c3] = [.int .i64 x1.f0, .int .i64 x1.f1] := e1
    simp only [List.cons.injEq, and_true] at e1
    replace e2 : [c4] = [.string x2] := e2
    simp only [List.cons.injEq, and_true] at e2
    exact ⟨⟨x0.f0, x0.f1, x1.f0, x1.f1, x2⟩, by rw [e0.1, e0.2, e1.1, e1.2, e2]; rfl, w0.1, w0.2, w1.1, w1.2, w2⟩
set_option maxRecDepth 100000 in
theorem opensT54 : Opens Tryd.prog 54 k54 (fun x => ((Lit.int .i64 x.f0).wf = true ∧ (Lit.int .i64 x.f1).wf = true ∧ (Lit.int .i64 x.f2).wf = true ∧ (x.f3.length ≤ maxLen ∧ ∀ z0 ∈ x.f3, (Lit.int .i64 z0).wf = true) ∧ (x.f4.length ≤ maxLen ∧ ∀ z0 ∈ x.f4, (Lit.int .i64 z0).wf = true) ∧ (x.f5.length ≤ maxLen ∧ ∀ z0 ∈ x.f5, ((Lit.int .i64 z0.f0).wf = true ∧ (Lit.int .i64 z0.f1).wf = true ∧ (Lit.int .i64 z0.f2).wf = true ∧ (Lit.int .i64 z0.f3).wf = true ∧ z0.f4.size ≤ maxLen)))) := by
  intro H enc W spare held fuel cs d ps h
  obtain ⟨ys, n, _, _, hl, hlen, hf⟩ := DataW.trod_struct Tryd.underlying54 h
  have hl : cs.length = 6 := hl.trans (by kernel_rfl)
  have hy : ys.length = 6 := hlen
  have z0 : Tryd.prog.cellsOf 3 = 1 := by kernel_rfl
  have h0 := hf 0 _ rfl
  rw [List.getElem?_eq_getElem (by omega)] at h0
  replace h0 : DataW.trod enc Tryd.prog W 0 spare held n 3 ((cs.drop 0).take (Tryd.prog.cellsOf 3)) = some (ys[0]'(by omega)) := h0
  rw [z0] at h0
  obtain ⟨x0, e0, w0⟩ := (Opens.int Tryd.underlying3) enc W spare held n _ _ _ h0
  have z1 : Tryd.prog.cellsOf 3 = 1 := by kernel_rfl
  have h1 := hf 1 _ rfl
  rw [List.getElem?_eq_getElem (by omega)] at h1
  replace h1 : DataW.trod enc Tryd.prog W 0 spare held n 3 ((cs.drop 1).take (Tryd.prog.cellsOf 3)) = some (ys[1]'(by omega)) := h1
  rw [z1] at h1
  obtain ⟨x1, e1, w1⟩ := (Opens.int Tryd.underlying3) enc W spare held n _ _ _ h1
  have z2 : Tryd.prog.cellsOf 3 = 1 := by kernel_rfl
  have h2 := hf 2 _ rfl
  rw [List.getElem?_eq_getElem (by omega)] at h2
  replace h2 : DataW.trod enc Tryd.prog W 0 spare held n 3 ((cs.drop 2).take (Tryd.prog.cellsOf 3)) = some (ys[2]'(by omega)) := h2
  rw [z2] at h2
  obtain ⟨x2, e2, w2⟩ := (Opens.int Tryd.underlying3) enc W spare held n _ _ _ h2
  have z3 : Tryd.prog.cellsOf 32 = 1 := by kernel_rfl
  have h3 := hf 3 _ rfl
  rw [List.getElem?_eq_getElem (by omega)] at h3
  replace h3 : DataW.trod enc Tryd.prog W 0 spare held n 32 ((cs.drop 3).take (Tryd.prog.cellsOf 32)) = some (ys[3]'(by omega)) := h3
  rw [z3] at h3
  obtain ⟨x3, e3, w3⟩ := (Opens.slice (kd := (kInt .i64)) Tryd.underlying32 (Opens.int Tryd.underlying3) (by kernel_rfl) (by decide)) enc W spare held n _ _ _ h3
  have z4 : Tryd.prog.cellsOf 32 = 1 := by kernel_rfl
  have h4 := hf 4 _ rfl
  rw [List.getElem?_eq_getElem (by omega)] at h4
  replace h4 : DataW.trod enc Tryd.prog W 0 spare held n 32 ((cs.drop 4).take (Tryd.prog.cellsOf 32)) = some (ys[4]'(by omega)) := h4
  rw [z4] at h4
  obtain ⟨x4, e4, w4⟩ := (Opens.slice (kd := (kInt .i64)) Tryd.underlying32 (Opens.int Tryd.underlying3) (by kernel_rfl) (by decide)) enc W spare held n _ _ _ h4
  have z5 : Tryd.prog.cellsOf 52 = 1 := by kernel_rfl
  have h5 := hf 5 _ rfl
  rw [List.getElem?_eq_getElem (by omega)] at h5
  replace h5 : DataW.trod enc Tryd.prog W 0 spare held n 52 ((cs.drop 5).take (Tryd.prog.cellsOf 52)) = some (ys[5]'(by omega)) := h5
  rw [z5] at h5
  obtain ⟨x5, e5, w5⟩ := (Opens.slice (kd := k39) Tryd.underlying52 opensT39 (by kernel_rfl) (by decide)) enc W spare held n _ _ _ h5
  match cs, hl with
  | [c0, c1, c2, c3, c4, c5], _ =>
    replace e0 : [c0] = [.int .i64 x0] := e0
    simp only [List.cons.injEq, and_true] at e0
    replace e1 : [c1] = [.int .i64 x1] := e1
    simp only [List.cons.injEq, and_true] at e1
    replace e2 : [c2] = [.int .i64 x2] := e2
    simp only [List.cons.injEq, and_true] at e2
    exact ⟨⟨x0, x1, x2, x3, x4, x5⟩, ⟨[c0], _, rfl, (congrArg (fun z => [z]) e0), ⟨[c1], _, rfl, (congrArg (fun z => [z]) e1), ⟨[c2], _, rfl, (congrArg (fun z => [z]) e2), ⟨[c3], _, rfl, e3, ⟨[c4], _, rfl, e4, e5⟩⟩⟩⟩⟩, w0, w1, w2, w3, w4, w5⟩
set_option maxRecDepth 100000 in
theorem lifted (os : Os) (started : os.Started) (H : Type) (enc : TypeId × Value → H) :
    ReturnsInHanded {} Tryd.checked os 8 .any ((fun w args => (Rows.talkSpoiltSpec.pre enc Tryd.prog Tryd.f8 [] false w args ∧ laidMetH Tryd.prog Laid.list w) ∧ sizedMet enc Tryd.prog Tryd.f8 (OpenSpec.ofChange Rows.talkSpoiltSpec) false w args)) (Rows.talkSpoiltSpec.post enc Tryd.prog Tryd.f8 false true false false) := by
  refine returnsInHanded_of_change_and (C := Tryd.checked) (X := fun w _ => laidMetH Tryd.prog Laid.list w) (fun _ _ _ hh h => h.of_heap hh) own started (by kernel_rfl) Tryd.func8
    (ChangeSpec.witness_at (enc := enc) (C := Tryd.checked) (os := os) (X := fun w _ => laidMetH Tryd.prog Laid.list w) false (Laid.laidWorld os) #[.agg #[.int .i64 0, .int .i64 0, .int .i64 0, .slice none 0 0, .slice none 0 0, .slice none 0 0], .int .i64 0, .int .i64 0, .int .u8 0] 8 rfl (by kernel_rfl) (by kernel_rfl) (by kernel_rfl) (by kernel_rfl) (by kernel_rfl) (Laid.met os _)) ?_
  intro W base args ds gs before hval0 hW hcnd hsz0 hL _
  have hval : ∀ (j : Nat) t v, Tryd.f8.params[j]? = some t → args[j]? = some v → Value.okWide Tryd.prog W .any base t v := hval0
  have hW' := hW
  obtain ⟨p, q, hA0, hV, rfl, hfz, hnd⟩ := hW
  have hA : DataW.TrodAll enc Tryd.prog W 0 (fun _ => true) true Tryd.f8.params.toList args.toList ds p := hA0
  rw [Tryd.params8] at hA hval
  obtain ⟨v0, vs0, d0, ds0, p0, q0, hargs, rfl, rfl, h0, r0⟩ := trodAll_cons hA
  obtain ⟨v1, vs1, d1, ds1, p1, q1, rfl, rfl, rfl, h1, r1⟩ := trodAll_cons r0
  obtain ⟨v2, vs2, d2, ds2, p2, q2, rfl, rfl, rfl, h2, r2⟩ := trodAll_cons r1
  obtain ⟨v3, vs3, d3, ds3, p3, q3, rfl, rfl, rfl, h3, r3⟩ := trodAll_cons r2
  obtain ⟨rfl, rfl, rfl⟩ := trodAll_nil r3
  obtain rfl : args = #[v0, v1, v2, v3] := by cases args; simp_all
  obtain ⟨rfl, rfl⟩ := trodVars_none hV
  have k0 := h0
  have lt0 : ∀ x ∈ p0, x.block < W.heap.size := by obtain ⟨m, hm⟩ := k0; exact DataW.trod_lt m _ _ _ hm
  obtain ⟨cs0, rfl, _⟩ := okWide_struct Tryd.underlying54 (hval 0 54 v0 rfl rfl)
  obtain ⟨a0, e0, w0⟩ : ∃ x, k54.rel (heapG W) x (Value.agg cs0).cells.toList ∧ ((Lit.int .i64 x.f0).wf = true ∧ (Lit.int .i64 x.f1).wf = true ∧ (Lit.int .i64 x.f2).wf = true ∧ (x.f3.length ≤ maxLen ∧ ∀ z0 ∈ x.f3, (Lit.int .i64 z0).wf = true) ∧ (x.f4.length ≤ maxLen ∧ ∀ z0 ∈ x.f4, (Lit.int .i64 z0).wf = true) ∧ (x.f5.length ≤ maxLen ∧ ∀ z0 ∈ x.f5, ((Lit.int .i64 z0.f0).wf = true ∧ (Lit.int .i64 z0.f1).wf = true ∧ (Lit.int .i64 z0.f2).wf = true ∧ (Lit.int .i64 z0.f3).wf = true ∧ z0.f4.size ≤ maxLen))) := by
    obtain ⟨m, hm⟩ := h0
    exact opensT54 enc W _ _ m _ _ _ hm
  obtain ⟨A0_3, c0_3, A0_4, c0_4, A0_5, c0_5, eq0, H0_3, H0_4, H0_5⟩ : ∃ A0_3 c0_3, ∃ A0_4 c0_4, ∃ A0_5 c0_5, cs0.toList = [.int .i64 a0.f0, .int .i64 a0.f1, .int .i64 a0.f2, .slice A0_3 a0.f3.length c0_3, .slice A0_4 a0.f4.length c0_4, .slice A0_5 a0.f5.length c0_5] ∧ Rd (kInt .i64) (heapG W) A0_3 c0_3 a0.f3 ∧ Rd (kInt .i64) (heapG W) A0_4 c0_4 a0.f4 ∧ Rd k39 (heapG W) A0_5 c0_5 a0.f5 := by
    obtain ⟨L0, hL0⟩ : ∃ l, l = cs0.toList := ⟨_, rfl⟩
    replace e0 : k54.rel (heapG W) a0 cs0.toList := e0
    rw [← hL0] at e0 ⊢
    obtain ⟨_, _, rfl, rfl, ⟨_, _, rfl, rfl, ⟨_, _, rfl, rfl, ⟨_, _, rfl, ⟨A0_3, c0_3, rfl, H0_3⟩, ⟨_, _, rfl, ⟨A0_4, c0_4, rfl, H0_4⟩, ⟨A0_5, c0_5, rfl, H0_5⟩⟩⟩⟩⟩⟩ := e0
    exact ⟨_, _, _, _, _, _, rfl, H0_3, H0_4, H0_5⟩
  obtain rfl : cs0 = #[.int .i64 a0.f0, .int .i64 a0.f1, .int .i64 a0.f2, .slice A0_3 a0.f3.length c0_3, .slice A0_4 a0.f4.length c0_4, .slice A0_5 a0.f5.length c0_5] := Array.toList_inj.1 eq0
  obtain ⟨a1, rfl, rfl, rfl, w1⟩ := open_int Tryd.underlying3 (hval 1 3 v1 rfl rfl) h1
  obtain ⟨a2, rfl, rfl, rfl, w2⟩ := open_int Tryd.underlying3 (hval 2 3 v2 rfl rfl) h2
  obtain ⟨a3, rfl, rfl, rfl, w3⟩ := open_int Tryd.underlying5 (hval 3 5 v3 rfl rfl) h3
  clear hA0 hval0 hsz0
  obtain ⟨k, hk⟩ := Pure.TalkSpoilt a0 a1 a2 a3 w0 w1 w2 w3
  refine (Gf.grapevinelaw20_TalkSpoilt_calls (U8.start (Laid.tabs hL)) k a0 a1 a2 a3 A0_3 c0_3 H0_3 A0_4 c0_4 H0_4 A0_5 c0_5 H0_5 true hk (Inv.start W)).mono fun e W' hret => ?_
  obtain ⟨_, _, _, rfl, ⟨rfl, rfl, rfl⟩, hI⟩ := hret
  have bel := hI.below
  exact ⟨_, rfl, _, _, _, [], _, [], hW', trodAll_mk1 (shut_bool Tryd.underlying4 _), (trodAll_cons_mk (Below.trod laidOut (by kernel_rfl) (of_decide_eq_true (by kernel_rfl)) k0 bel lt0) (trodAll_cons_mk (shut_int Tryd.underlying3 w1) (trodAll_cons_mk (shut_int Tryd.underlying3 w2) (trodAll_cons_mk (shut_int Tryd.underlying5 w3) trodAll_mk0)))), rfl, bel.frame _, fun h => by cases h⟩
theorem over : Rows.talkSpoiltRow.holds Tryd.pinned (OpenSpec.ofChange Rows.talkSpoiltSpec) :=
  OpenClaim.holds_of_wide 8 Tryd.f8 rfl rfl rfl rfl rfl rfl rfl ⟨rfl, rfl, rfl, rfl, rfl⟩ rfl rfl rfl rfl rfl (by kernel_rfl) Tryd.func8 (by kernel_rfl)
    (of_decide_eq_true (by kernel_rfl)) (by unfold Func.isWrapper; first | (rw [if_pos (by decide +kernel)]; kernel_rfl) | (rw [if_neg (by decide +kernel)]; exact ⟨rfl, rfl⟩))
    (fun os started H enc _ => lifted os started H enc)
end Go.Proofs.YtfocilpnbiciaaaDoor.talkSpoilt
namespace Go.Proofs.YtfocilpnbiciaaaDoor
theorem talkSpoilt_holds : Rows.TalkSpoiltCardSaid :=
  Claim7.holds_tied_plain_at .later [] [.data, .pinned] true (true, "82a483a171e6342dd9b53beacbce4a2b5c235689f713ed2aac62c19d076ec4de") false
    talkSpoilt.over (fun _ h => by cases h) (by kernel_rfl) (fun _ h => by cases h) talkSpoilt_row_tie rfl ⟨rfl, rfl⟩ (by kernel_rfl) rfl
    (fun f fn hf hfn => by
      obtain rfl : f = 8 := Option.some.inj ((show Tryd.prog.funcNamed Rows.talkSpoiltRow.func = some 8 by kernel_rfl).symm.trans hf) |>.symm
      obtain rfl : fn = Tryd.f8 := (Option.some.inj (Tryd.func8.symm.trans hfn)).symm
      exact ⟨by kernel_rfl, fun j t ht => Laid.stand (p := Tryd.prog) (ps := Tryd.f8.params) (by kernel_rfl) j t ht⟩)
    (by kernel_rfl)
#print axioms talkSpoilt_holds
end Go.Proofs.YtfocilpnbiciaaaDoor
