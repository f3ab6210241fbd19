/- The row of AskBack, out of its walk and its plain law. Written by gg.py of this repo. -/
import Derived.Test.YtmgkpphbehamcaaGreatDoorRows
import Derived.Test.YtmgkpphbehamcaaGreatDoorLAskBack
import Derived.Test.YtmgkpphbehamcaaGreatDoorPAskBack
import Derived.Test.YtmgkpphbehamcaaGreatDoorGgI
import Derived.Test.YtmgkpphbehamcaaGreatDoorW6
import Derived.Test.YtmgkpphbehamcaaGreatDoorTie
import Derived.Test.YtmgkpphbehamcaaGreatDoorCards
import Derived.ChangeSame
import Derived.ChangeVars
import Derived.JoinedOf
import Derived.RowKit
import Derived.RowKitTokens
import Derived.Stop.Joined
import Derived.SevenTiedAt
namespace Go.Proofs.YtmgkpphbehamcaaGreatDoor.askBack
open Go.ChangeShapes Go.WideShapes Go.ChangeAt Go.RowKit Go.Gg
open Go.ChangeMaps (open_string shut_string)
set_option linter.unusedVariables false
theorem own : ownKnob Tryz.prog.godebug = none := by kernel_rfl
theorem laidOut : laidOutB Tryz.prog = true := by kernel_rfl
open Go.Proofs.YtmgkpphbehamcaaGreatDoor.Gf
set_option maxRecDepth 100000 in
theorem opensS26 (N : Nat) (ihN : OpensD Tryz.prog 26 k26 (Ok26N N) N) : OpensD Tryz.prog 26 k26 (Ok26N (N + 1)) (N + 1) := by
 intro H enc W spare held fuel cs d ps hN h; obtain ⟨ys, n, _, hxx, hl, hlen, hf⟩ := DataW.trod_struct Tryz.underlying26 h; have hl : cs.length = 4 := hl.trans (by kernel_rfl); have hy : ys.length = 4 := hlen; have hd1 : d = .agg (ys.map (·.1)) := congrArg Prod.fst hxx; have z0 : Tryz.prog.cellsOf 3 = 1 := by kernel_rfl
 have h0 := hf 0 _ rfl; rw [List.getElem?_eq_getElem (by omega)] at h0; replace h0 : DataW.trod enc Tryz.prog W 0 spare held n 3 ((cs.drop 0).take (Tryz.prog.cellsOf 3)) = some (ys[0]'(by omega)) := h0; rw [z0] at h0; obtain ⟨x0, e0, w0⟩ := (Opens.int Tryz.underlying3) enc W spare held n _ _ _ h0; have z1 : Tryz.prog.cellsOf 3 = 1 := by kernel_rfl
 have h1 := hf 1 _ rfl; rw [List.getElem?_eq_getElem (by omega)] at h1; replace h1 : DataW.trod enc Tryz.prog W 0 spare held n 3 ((cs.drop 1).take (Tryz.prog.cellsOf 3)) = some (ys[1]'(by omega)) := h1; rw [z1] at h1; obtain ⟨x1, e1, w1⟩ := (Opens.int Tryz.underlying3) enc W spare held n _ _ _ h1; have z2 : Tryz.prog.cellsOf 23 = 1 := by kernel_rfl
 have h2 := hf 2 _ rfl; rw [List.getElem?_eq_getElem (by omega)] at h2; replace h2 : DataW.trod enc Tryz.prog W 0 spare held n 23 ((cs.drop 2).take (Tryz.prog.cellsOf 23)) = some (ys[2]'(by omega)) := h2; rw [z2] at h2; obtain ⟨x2, e2, w2⟩ := (Opens.slice (kd := kStr) Tryz.underlying23 (Opens.str Tryz.underlying9) (by kernel_rfl) (by decide)) enc W spare held n _ _ _ h2; have z3 : Tryz.prog.cellsOf 24 = 1 := by kernel_rfl
 have h3 := hf 3 _ rfl; rw [List.getElem?_eq_getElem (by omega)] at h3; replace h3 : DataW.trod enc Tryz.prog W 0 spare held n 24 ((cs.drop 3).take (Tryz.prog.cellsOf 24)) = some (ys[3]'(by omega)) := h3; rw [z3] at h3; obtain ⟨x3, e3, w3⟩ := OpensD.slice (kd := k26) Tryz.underlying24 ihN (by kernel_rfl) (by decide) enc W spare held n _ _ _ (by have := size_part (ys := ys) (i := 3) (by omega); rw [← hd1] at this; exact Nat.lt_of_lt_of_le this (Nat.le_of_lt_succ hN)) h3
 match cs, hl with
 | [c0, c1, c2, c3], _ =>
  replace e0 : [c0] = [.int .i64 x0] := e0; simp only [List.cons.injEq, and_true] at e0; replace e1 : [c1] = [.int .i64 x1] := e1; simp only [List.cons.injEq, and_true] at e1; exact ⟨⟨x0, x1, x2, x3⟩, (k26_in ⟨[c0], _, rfl, (congrArg (fun z => [z]) e0), ⟨[c1], _, rfl, (congrArg (fun z => [z]) e1), ⟨[c2], _, rfl, e2, e3⟩⟩⟩), w0, w1, w2, w3⟩
theorem opensD26 : ∀ N, OpensD Tryz.prog 26 k26 (Ok26N N) N
 | 0 => fun enc W spare held fuel cs d ps hN _ => absurd hN (by omega)
 | N + 1 => opensS26 N (opensD26 N)
theorem opensT26 : Opens Tryz.prog 26 k26 Ok26 := OpensD.all opensD26
set_option maxRecDepth 100000 in
theorem opensT28 : Opens Tryz.prog 28 k28 (fun x => ((Lit.int .i64 x.f0).wf = true ∧ (Lit.int .i64 x.f1).wf = true)) := by
 intro H enc W spare held fuel cs d ps h; obtain ⟨ys, n, _, hxx, hl, hlen, hf⟩ := DataW.trod_struct Tryz.underlying28 h; have hl : cs.length = 2 := hl.trans (by kernel_rfl); have hy : ys.length = 2 := hlen; have z0 : Tryz.prog.cellsOf 3 = 1 := by kernel_rfl
 have h0 := hf 0 _ rfl; rw [List.getElem?_eq_getElem (by omega)] at h0; replace h0 : DataW.trod enc Tryz.prog W 0 spare held n 3 ((cs.drop 0).take (Tryz.prog.cellsOf 3)) = some (ys[0]'(by omega)) := h0; rw [z0] at h0; obtain ⟨x0, e0, w0⟩ := (Opens.int Tryz.underlying3) enc W spare held n _ _ _ h0; have z1 : Tryz.prog.cellsOf 3 = 1 := by kernel_rfl
 have h1 := hf 1 _ rfl; rw [List.getElem?_eq_getElem (by omega)] at h1; replace h1 : DataW.trod enc Tryz.prog W 0 spare held n 3 ((cs.drop 1).take (Tryz.prog.cellsOf 3)) = some (ys[1]'(by omega)) := h1; rw [z1] at h1; obtain ⟨x1, e1, w1⟩ := (Opens.int Tryz.underlying3) enc W spare held n _ _ _ h1
 match cs, hl with
 | [c0, c1], _ =>
  replace e0 : [c0] = [.int .i64 x0] := e0; simp only [List.cons.injEq, and_true] at e0; replace e1 : [c1] = [.int .i64 x1] := e1; simp only [List.cons.injEq, and_true] at e1; exact ⟨⟨x0, x1⟩, by rw [e0, e1]; rfl, w0, w1⟩
set_option maxRecDepth 100000 in
theorem opensT30 : Opens Tryz.prog 30 k30 (fun x => ((Lit.int .i64 x.f0).wf = true ∧ (Lit.int .i64 x.f1).wf = true)) := by
 intro H enc W spare held fuel cs d ps h; obtain ⟨ys, n, _, hxx, hl, hlen, hf⟩ := DataW.trod_struct Tryz.underlying30 h; have hl : cs.length = 2 := hl.trans (by kernel_rfl); have hy : ys.length = 2 := hlen; have z0 : Tryz.prog.cellsOf 3 = 1 := by kernel_rfl
 have h0 := hf 0 _ rfl; rw [List.getElem?_eq_getElem (by omega)] at h0; replace h0 : DataW.trod enc Tryz.prog W 0 spare held n 3 ((cs.drop 0).take (Tryz.prog.cellsOf 3)) = some (ys[0]'(by omega)) := h0; rw [z0] at h0; obtain ⟨x0, e0, w0⟩ := (Opens.int Tryz.underlying3) enc W spare held n _ _ _ h0; have z1 : Tryz.prog.cellsOf 3 = 1 := by kernel_rfl
 have h1 := hf 1 _ rfl; rw [List.getElem?_eq_getElem (by omega)] at h1; replace h1 : DataW.trod enc Tryz.prog W 0 spare held n 3 ((cs.drop 1).take (Tryz.prog.cellsOf 3)) = some (ys[1]'(by omega)) := h1; rw [z1] at h1; obtain ⟨x1, e1, w1⟩ := (Opens.int Tryz.underlying3) enc W spare held n _ _ _ h1
 match cs, hl with
 | [c0, c1], _ =>
  replace e0 : [c0] = [.int .i64 x0] := e0; simp only [List.cons.injEq, and_true] at e0; replace e1 : [c1] = [.int .i64 x1] := e1; simp only [List.cons.injEq, and_true] at e1; exact ⟨⟨x0, x1⟩, by rw [e0, e1]; rfl, w0, w1⟩
set_option maxRecDepth 100000 in
theorem opensT32 : Opens Tryz.prog 32 k32 (fun x => ((Lit.int .i64 x.f0).wf = true ∧ (Lit.int .i64 x.f1).wf = true ∧ (Lit.int .i64 x.f2).wf = true ∧ (Lit.int .i64 x.f3).wf = true ∧ x.f4.size ≤ maxLen)) := by
 intro H enc W spare held fuel cs d ps h; obtain ⟨ys, n, _, hxx, hl, hlen, hf⟩ := DataW.trod_struct Tryz.underlying32 h; have hl : cs.length = 5 := hl.trans (by kernel_rfl); have hy : ys.length = 3 := hlen; have z0 : Tryz.prog.cellsOf 28 = 2 := by kernel_rfl
 have h0 := hf 0 _ rfl; rw [List.getElem?_eq_getElem (by omega)] at h0; replace h0 : DataW.trod enc Tryz.prog W 0 spare held n 28 ((cs.drop 0).take (Tryz.prog.cellsOf 28)) = some (ys[0]'(by omega)) := h0; rw [z0] at h0; obtain ⟨x0, e0, w0⟩ := opensT28 enc W spare held n _ _ _ h0; have z1 : Tryz.prog.cellsOf 30 = 2 := by kernel_rfl
 have h1 := hf 1 _ rfl; rw [List.getElem?_eq_getElem (by omega)] at h1; replace h1 : DataW.trod enc Tryz.prog W 0 spare held n 30 ((cs.drop 2).take (Tryz.prog.cellsOf 30)) = some (ys[1]'(by omega)) := h1; rw [z1] at h1; obtain ⟨x1, e1, w1⟩ := opensT30 enc W spare held n _ _ _ h1; have z2 : Tryz.prog.cellsOf 9 = 1 := by kernel_rfl
 have h2 := hf 2 _ rfl; rw [List.getElem?_eq_getElem (by omega)] at h2; replace h2 : DataW.trod enc Tryz.prog W 0 spare held n 9 ((cs.drop 4).take (Tryz.prog.cellsOf 9)) = some (ys[2]'(by omega)) := h2; rw [z2] at h2; obtain ⟨x2, e2, w2⟩ := (Opens.str Tryz.underlying9) enc W spare held n _ _ _ h2
 match cs, hl with
 | [c0, c1, c2, c3, c4], _ =>
  replace e0 : [c0, c1] = [.int .i64 x0.f0, .int .i64 x0.f1] := e0; simp only [List.cons.injEq, and_true] at e0; replace e1 : [c2, c3] = [.int .i64 x1.f0, .int .i64 x1.f1] := e1; simp only [List.cons.injEq, and_true] at e1; replace e2 : [c4] = [.string x2] := e2; simp only [List.cons.injEq, and_true] at e2; exact ⟨⟨x0.f0, x0.f1, x1.f0, x1.f1, x2⟩, by rw [e0.1, e0.2, e1.1, e1.2, e2]; rfl, w0.1, w0.2, w1.1, w1.2, w2⟩
set_option maxRecDepth 100000 in
theorem opensT34 : Opens Tryz.prog 34 k34 (fun x => ((Lit.int .i64 x.f0).wf = true ∧ (Lit.int .i64 x.f1).wf = true ∧ (x.f2.length ≤ maxLen ∧ ∀ z0 ∈ x.f2, z0.size ≤ maxLen) ∧ (x.f3.length ≤ maxLen ∧ ∀ z0 ∈ x.f3, Ok26 z0) ∧ (Lit.int .i64 x.f4).wf = true ∧ (Lit.int .i64 x.f5).wf = true ∧ (Lit.int .i64 x.f6).wf = true ∧ (Lit.int .i64 x.f7).wf = true ∧ (Lit.int .i64 x.f8).wf = true ∧ x.f9.size ≤ maxLen)) := by
 intro H enc W spare held fuel cs d ps h; obtain ⟨ys, n, _, hxx, hl, hlen, hf⟩ := DataW.trod_struct Tryz.underlying34 h; have hl : cs.length = 10 := hl.trans (by kernel_rfl); have hy : ys.length = 3 := hlen; have z0 : Tryz.prog.cellsOf 26 = 4 := by kernel_rfl
 have h0 := hf 0 _ rfl; rw [List.getElem?_eq_getElem (by omega)] at h0; replace h0 : DataW.trod enc Tryz.prog W 0 spare held n 26 ((cs.drop 0).take (Tryz.prog.cellsOf 26)) = some (ys[0]'(by omega)) := h0; rw [z0] at h0; obtain ⟨x0, e0, w0⟩ := opensT26 enc W spare held n _ _ _ h0; have z1 : Tryz.prog.cellsOf 3 = 1 := by kernel_rfl
 have h1 := hf 1 _ rfl; rw [List.getElem?_eq_getElem (by omega)] at h1; replace h1 : DataW.trod enc Tryz.prog W 0 spare held n 3 ((cs.drop 4).take (Tryz.prog.cellsOf 3)) = some (ys[1]'(by omega)) := h1; rw [z1] at h1; obtain ⟨x1, e1, w1⟩ := (Opens.int Tryz.underlying3) enc W spare held n _ _ _ h1; have z2 : Tryz.prog.cellsOf 32 = 5 := by kernel_rfl
 have h2 := hf 2 _ rfl; rw [List.getElem?_eq_getElem (by omega)] at h2; replace h2 : DataW.trod enc Tryz.prog W 0 spare held n 32 ((cs.drop 5).take (Tryz.prog.cellsOf 32)) = some (ys[2]'(by omega)) := h2; rw [z2] at h2; obtain ⟨x2, e2, w2⟩ := opensT32 enc W spare held n _ _ _ h2
 match cs, hl with
 | [c0, c1, c2, c3, c4, c5, c6, c7, c8, c9], _ =>
  replace e0 : k26.rel _ x0 [c0, c1, c2, c3] := e0; obtain ⟨L0, hL0⟩ : ∃ l, l = [c0, c1, c2, c3] := ⟨_, rfl⟩; rw [← hL0] at e0; replace e0 := k26_out e0; obtain ⟨_, _, rfl, rfl, ⟨_, _, rfl, rfl, ⟨_, _, rfl, ⟨A0_2, r0_2, rfl, H0_2⟩, ⟨A0_3, r0_3, rfl, H0_3⟩⟩⟩⟩ := e0; simp only [List.cons_append, List.nil_append, List.cons.injEq, and_true] at hL0; obtain ⟨rfl, rfl, rfl, rfl⟩ := hL0; obtain ⟨n0, w0⟩ := w0; obtain ⟨n0, rfl⟩ : ∃ m, n0 = m + 1 := by cases n0 with | zero => exact w0.elim | succ m => exact ⟨m, rfl⟩
  replace w0 : (Lit.int .i64 x0.f0).wf = true ∧ (Lit.int .i64 x0.f1).wf = true ∧ (x0.f2.length ≤ maxLen ∧ ∀ z0 ∈ x0.f2, z0.size ≤ maxLen) ∧ (x0.f3.length ≤ maxLen ∧ ∀ z0 ∈ x0.f3, Ok26 z0) := ⟨w0.1, w0.2.1, w0.2.2.1, ⟨w0.2.2.2.1, fun z hz => ⟨n0, w0.2.2.2.2 z hz⟩⟩⟩; replace e1 : [c4] = [.int .i64 x1] := e1; simp only [List.cons.injEq, and_true] at e1; replace e2 : [c5, c6, c7, c8, c9] = [.int .i64 x2.f0, .int .i64 x2.f1, .int .i64 x2.f2, .int .i64 x2.f3, .string x2.f4] := e2; simp only [List.cons.injEq, and_true] at e2; exact ⟨⟨x0.f0, x0.f1, x0.f2, x0.f3, x1, x2.f0, x2.f1, x2.f2, x2.f3, x2.f4⟩, ⟨[_], _, rfl, rfl, ⟨[_], _, rfl, rfl, ⟨[_], _, rfl, ⟨A0_2, r0_2, rfl, H0_2⟩, ⟨[_], _, rfl, ⟨A0_3, r0_3, rfl, H0_3⟩, ⟨[c4], _, rfl, (congrArg (fun z => [z]) e1), ⟨[c5], _, rfl, (congrArg (fun z => [z]) e2.1), ⟨[c6], _, rfl, (congrArg (fun z => [z]) e2.2.1), ⟨[c7], _, rfl, (congrArg (fun z => [z]) e2.2.2.1), ⟨[c8], _, rfl, (congrArg (fun z => [z]) e2.2.2.2.1), (congrArg (fun z => [z]) e2.2.2.2.2)⟩⟩⟩⟩⟩⟩⟩⟩⟩, w0.1, w0.2.1, w0.2.2.1, w0.2.2.2, w1, w2.1, w2.2.1, w2.2.2.1, w2.2.2.2.1, w2.2.2.2.2⟩
set_option maxRecDepth 100000 in
theorem lifted (os : Os) (started : os.Started) (H : Type) (enc : TypeId × Value → H) :
  ReturnsInHanded {} Tryz.checked os 4 .any ((fun w args => (Rows.askBackSpec.pre enc Tryz.prog Tryz.f4 [] false w args ∧ laidMetH Tryz.prog Laid.list w) ∧ sizedMet enc Tryz.prog Tryz.f4 (OpenSpec.ofChange Rows.askBackSpec) false w args)) (Rows.askBackSpec.post enc Tryz.prog Tryz.f4 false true false false) := by
 refine Laid.row started (by kernel_rfl) Tryz.func4
  (ChangeSpec.witness_shaped (enc := enc) (C := Tryz.checked) (os := os) (X := fun w _ => laidMetH Tryz.prog Laid.list w) false (World.laidAll Tryz.prog os Laid.list) #[.agg #[.int .i64 0, .int .i64 0, .slice none 0 0, .slice none 0 0, .int .i64 0, .int .i64 0, .int .i64 0, .int .i64 0, .int .i64 0, .string ByteArray.empty], .string ByteArray.empty] 8 (World.laidAll_os _ _ _) (World.shaped_of_ZipB (by kernel_rfl) (by kernel_rfl)) (by kernel_rfl) (by kernel_rfl) (by kernel_rfl) (Laid.met os _)) ?_
 intro W base args ds gs before hval0 hW hcnd hsz0 hL hS _; have hval : ∀ (j : Nat) t v, Tryz.f4.params[j]? = some t → args[j]? = some v → Value.okWide Tryz.prog W .any base t v := hval0; have hW' := hW; obtain ⟨p, q, hA0, hV, rfl, hfz, hnd⟩ := hW; have hA : DataW.TrodAll enc Tryz.prog W 0 (fun _ => true) true Tryz.f4.params.toList args.toList ds p := hA0; rw [Tryz.params4] at hA hval; obtain ⟨v0, vs0, d0, ds0, p0, q0, hargs, rfl, rfl, h0, r0⟩ := trodAll_cons hA; obtain ⟨v1, vs1, d1, ds1, p1, q1, rfl, rfl, rfl, h1, r1⟩ := trodAll_cons r0; obtain ⟨rfl, rfl, rfl⟩ := trodAll_nil r1; obtain rfl : args = #[v0, v1] := by cases args; simp_all
 obtain ⟨rfl, rfl⟩ := trodVars_none hV; have k0 := h0; have lt0 : ∀ x ∈ p0, x.block < W.heap.size := by obtain ⟨m, hm⟩ := k0; exact DataW.trod_lt m _ _ _ hm
 obtain ⟨cs0, rfl, _⟩ := okWide_struct Tryz.underlying34 (hval 0 34 v0 rfl rfl); obtain ⟨a0, e0, w0⟩ : ∃ x, k34.rel (heapG W) x (Value.agg cs0).cells.toList ∧ ((Lit.int .i64 x.f0).wf = true ∧ (Lit.int .i64 x.f1).wf = true ∧ (x.f2.length ≤ maxLen ∧ ∀ z0 ∈ x.f2, z0.size ≤ maxLen) ∧ (x.f3.length ≤ maxLen ∧ ∀ z0 ∈ x.f3, Ok26 z0) ∧ (Lit.int .i64 x.f4).wf = true ∧ (Lit.int .i64 x.f5).wf = true ∧ (Lit.int .i64 x.f6).wf = true ∧ (Lit.int .i64 x.f7).wf = true ∧ (Lit.int .i64 x.f8).wf = true ∧ x.f9.size ≤ maxLen) := by
  obtain ⟨m, hm⟩ := h0; exact opensT34 enc W _ _ m _ _ _ hm
 obtain ⟨A0_2, c0_2, A0_3, c0_3, eq0, H0_2, H0_3⟩ : ∃ A0_2 c0_2, ∃ A0_3 c0_3, cs0.toList = [.int .i64 a0.f0, .int .i64 a0.f1, .slice A0_2 a0.f2.length c0_2, .slice A0_3 a0.f3.length c0_3, .int .i64 a0.f4, .int .i64 a0.f5, .int .i64 a0.f6, .int .i64 a0.f7, .int .i64 a0.f8, .string a0.f9] ∧ Rd kStr (heapG W) A0_2 c0_2 a0.f2 ∧ Rd k26 (heapG W) A0_3 c0_3 a0.f3 := by
  obtain ⟨L0, hL0⟩ : ∃ l, l = cs0.toList := ⟨_, rfl⟩; replace e0 : k34.rel (heapG W) a0 cs0.toList := e0; rw [← hL0] at e0 ⊢; obtain ⟨_, _, rfl, rfl, ⟨_, _, rfl, rfl, ⟨_, _, rfl, ⟨A0_2, c0_2, rfl, H0_2⟩, ⟨_, _, rfl, ⟨A0_3, c0_3, rfl, H0_3⟩, ⟨_, _, rfl, rfl, ⟨_, _, rfl, rfl, ⟨_, _, rfl, rfl, ⟨_, _, rfl, rfl, ⟨_, _, rfl, rfl, rfl⟩⟩⟩⟩⟩⟩⟩⟩⟩ := e0; exact ⟨_, _, _, _, rfl, H0_2, H0_3⟩
 obtain rfl : cs0 = #[.int .i64 a0.f0, .int .i64 a0.f1, .slice A0_2 a0.f2.length c0_2, .slice A0_3 a0.f3.length c0_3, .int .i64 a0.f4, .int .i64 a0.f5, .int .i64 a0.f6, .int .i64 a0.f7, .int .i64 a0.f8, .string a0.f9] := Array.toList_inj.1 eq0; obtain ⟨a1, rfl, rfl, rfl, y1⟩ := open_string Tryz.underlying9 (hval 1 9 v1 rfl rfl) h1; have hsz : (DataW.weightsEach Tryz.prog [34, 9] [_, .lit (.string a1.data.toList)]).all (· ≤ reachBytes) = true := hsz0; have u1 : a1.size ≤ 140737488351232 := by
  have h1 := of_decide_eq_true (List.all_eq_true.1 hsz a1.data.toList.length (by simp [DataW.weightsEach, DataW.weights])); rw [Array.length_toList] at h1; exact h1
 clear hA0 hval0 hsz0; obtain ⟨k, hk⟩ := Pure.AskBack a0 a1 w0 u1; refine (Gf.grapevinelaw14_AskBack_calls (Gf.Tabs.start (Laid.tabs hL hS)) k a0 a1 A0_2 c0_2 H0_2 A0_3 c0_3 H0_3 true hk (Inv.start W)).mono fun e W' hret => ?_
 obtain ⟨_, _, _, rfl, ⟨rfl, rfl, rfl⟩, hI⟩ := hret; have bel := hI.below; exact ⟨_, rfl, _, _, _, [], _, [], hW', trodAll_mk1 (shut_bool Tryz.underlying4 _), (trodAll_cons_mk (Below.trod laidOut (by kernel_rfl) (of_decide_eq_true (by kernel_rfl)) k0 bel lt0) (trodAll_cons_mk (shut_string Tryz.underlying9 y1) trodAll_mk0)), rfl, bel.frame _, fun h => by cases h⟩
theorem over : Rows.askBackRow.holds Tryz.pinned (OpenSpec.ofChange Rows.askBackSpec) :=
 OpenClaim.holds_of_wide 4 Tryz.f4 rfl rfl rfl rfl rfl rfl rfl ⟨rfl, rfl, rfl, rfl, rfl⟩ rfl rfl rfl rfl rfl (by kernel_rfl) Tryz.func4 (by kernel_rfl)
  (of_decide_eq_true (by kernel_rfl)) (by unfold Func.isWrapper; first | (rw [if_pos (by decide +kernel)]; kernel_rfl) | (rw [if_neg (by decide +kernel)]; exact ⟨rfl, rfl⟩))
  (fun os started H enc _ => lifted os started H enc)
end Go.Proofs.YtmgkpphbehamcaaGreatDoor.askBack
namespace Go.Proofs.YtmgkpphbehamcaaGreatDoor
theorem askBack_holds : Rows.AskBackCardSaid :=
 Claim7.holds_tied_plain_at .later [] [.data, .data, .data, .data, .sentinel, .sentinel, .data, .pinned, .pinned, .pinned, .pinned] true (true, "e63507c4b84cfbff93743d0a7721f21f07faf479c35b660da6caf4e59c03a771") true
  askBack.over (fun _ h => by cases h) (by kernel_rfl) (fun _ h => by cases h) askBack_row_tie rfl ⟨rfl, rfl⟩ (by kernel_rfl) rfl
  (fun f fn hf hfn => by
   obtain rfl : f = 4 := Option.some.inj ((show Tryz.prog.funcNamed Rows.askBackRow.func = some 4 by kernel_rfl).symm.trans hf) |>.symm; obtain rfl : fn = Tryz.f4 := (Option.some.inj (Tryz.func4.symm.trans hfn)).symm; exact ⟨by kernel_rfl, fun j t ht => Laid.stand (p := Tryz.prog) (ps := Tryz.f4.params) (by kernel_rfl) j t ht⟩)
  (by kernel_rfl)
#print axioms askBack_holds
end Go.Proofs.YtmgkpphbehamcaaGreatDoor
