/- The row of AskDeeper, out of its walk and its plain law. Written by gg.py of this repo. -/
import Derived.Test.YtmgkpphbehamcaaGreatDoorRows
import Derived.Test.YtmgkpphbehamcaaGreatDoorLAskDeeper
import Derived.Test.YtmgkpphbehamcaaGreatDoorPAskDeeper
import Derived.Test.YtmgkpphbehamcaaGreatDoorGgJ
import Derived.Test.YtmgkpphbehamcaaGreatDoorW6
import Derived.Test.YtmgkpphbehamcaaGreatDoorTie
import Derived.Test.YtmgkpphbehamcaaGreatDoorCards
import Derived.ChangeSame
import Derived.ChangeVars
import Derived.JoinedOf
import Derived.RowKit
import Derived.RowKitTokens
import Derived.Stop.Joined
import Derived.SevenTiedAt
namespace Go.Proofs.YtmgkpphbehamcaaGreatDoor.askDeeper
open Go.ChangeShapes Go.WideShapes Go.ChangeAt Go.RowKit Go.Gg
open Go.ChangeMaps (open_string shut_string)
set_option linter.unusedVariables false
theorem own : ownKnob Tryz.prog.godebug = none := by kernel_rfl
theorem laidOut : laidOutB Tryz.prog = true := by kernel_rfl
open Go.Proofs.YtmgkpphbehamcaaGreatDoor.Gf
set_option maxRecDepth 100000 in
theorem opensS26 (N : Nat) (ihN : OpensD Tryz.prog 26 k26 (Ok26N N) N) : OpensD Tryz.prog 26 k26 (Ok26N (N + 1)) (N + 1) := by
 intro H enc W spare held fuel cs d ps hN h; obtain ⟨ys, n, _, hxx, hl, hlen, hf⟩ := DataW.trod_struct Tryz.underlying26 h; have hl : cs.length = 4 := hl.trans (by kernel_rfl); have hy : ys.length = 4 := hlen; have hd1 : d = .agg (ys.map (·.1)) := congrArg Prod.fst hxx; have z0 : Tryz.prog.cellsOf 3 = 1 := by kernel_rfl
 have h0 := hf 0 _ rfl; rw [List.getElem?_eq_getElem (by omega)] at h0; replace h0 : DataW.trod enc Tryz.prog W 0 spare held n 3 ((cs.drop 0).take (Tryz.prog.cellsOf 3)) = some (ys[0]'(by omega)) := h0; rw [z0] at h0; obtain ⟨x0, e0, w0⟩ := (Opens.int Tryz.underlying3) enc W spare held n _ _ _ h0; have z1 : Tryz.prog.cellsOf 3 = 1 := by kernel_rfl
 have h1 := hf 1 _ rfl; rw [List.getElem?_eq_getElem (by omega)] at h1; replace h1 : DataW.trod enc Tryz.prog W 0 spare held n 3 ((cs.drop 1).take (Tryz.prog.cellsOf 3)) = some (ys[1]'(by omega)) := h1; rw [z1] at h1; obtain ⟨x1, e1, w1⟩ := (Opens.int Tryz.underlying3) enc W spare held n _ _ _ h1; have z2 : Tryz.prog.cellsOf 23 = 1 := by kernel_rfl
 have h2 := hf 2 _ rfl; rw [List.getElem?_eq_getElem (by omega)] at h2; replace h2 : DataW.trod enc Tryz.prog W 0 spare held n 23 ((cs.drop 2).take (Tryz.prog.cellsOf 23)) = some (ys[2]'(by omega)) := h2; rw [z2] at h2; obtain ⟨x2, e2, w2⟩ := (Opens.slice (kd := kStr) Tryz.underlying23 (Opens.str Tryz.underlying9) (by kernel_rfl) (by decide)) enc W spare held n _ _ _ h2; have z3 : Tryz.prog.cellsOf 24 = 1 := by kernel_rfl
 have h3 := hf 3 _ rfl; rw [List.getElem?_eq_getElem (by omega)] at h3; replace h3 : DataW.trod enc Tryz.prog W 0 spare held n 24 ((cs.drop 3).take (Tryz.prog.cellsOf 24)) = some (ys[3]'(by omega)) := h3; rw [z3] at h3; obtain ⟨x3, e3, w3⟩ := OpensD.slice (kd := k26) Tryz.underlying24 ihN (by kernel_rfl) (by decide) enc W spare held n _ _ _ (by have := size_part (ys := ys) (i := 3) (by omega); rw [← hd1] at this; exact Nat.lt_of_lt_of_le this (Nat.le_of_lt_succ hN)) h3
 match cs, hl with
 | [c0, c1, c2, c3], _ =>
  replace e0 : [c0] = [.int .i64 x0] := e0; simp only [List.cons.injEq, and_true] at e0; replace e1 : [c1] = [.int .i64 x1] := e1; simp only [List.cons.injEq, and_true] at e1; exact ⟨⟨x0, x1, x2, x3⟩, (k26_in ⟨[c0], _, rfl, (congrArg (fun z => [z]) e0), ⟨[c1], _, rfl, (congrArg (fun z => [z]) e1), ⟨[c2], _, rfl, e2, e3⟩⟩⟩), w0, w1, w2, w3⟩
theorem opensD26 : ∀ N, OpensD Tryz.prog 26 k26 (Ok26N N) N
 | 0 => fun enc W spare held fuel cs d ps hN _ => absurd hN (by omega)
 | N + 1 => opensS26 N (opensD26 N)
theorem opensT26 : Opens Tryz.prog 26 k26 Ok26 := OpensD.all opensD26
set_option maxRecDepth 100000 in
theorem lifted (os : Os) (started : os.Started) (H : Type) (enc : TypeId × Value → H) :
  ReturnsInHanded {} Tryz.checked os 6 .any ((fun w args => (Rows.askDeeperSpec.pre enc Tryz.prog Tryz.f6 [] false w args ∧ laidMetH Tryz.prog Laid.list w) ∧ sizedMet enc Tryz.prog Tryz.f6 (OpenSpec.ofChange Rows.askDeeperSpec) false w args)) (Rows.askDeeperSpec.post enc Tryz.prog Tryz.f6 false true false false) := by
 refine Laid.row started (by kernel_rfl) Tryz.func6
  (ChangeSpec.witness_shaped (enc := enc) (C := Tryz.checked) (os := os) (X := fun w _ => laidMetH Tryz.prog Laid.list w) false (World.laidAll Tryz.prog os Laid.list) #[.agg #[.int .i64 0, .int .i64 0, .slice none 0 0, .slice none 0 0], .int .i64 0] 8 (World.laidAll_os _ _ _) (World.shaped_of_ZipB (by kernel_rfl) (by kernel_rfl)) (by kernel_rfl) (by kernel_rfl) (by kernel_rfl) (Laid.met os _)) ?_
 intro W base args ds gs before hval0 hW hcnd hsz0 hL hS _; have hval : ∀ (j : Nat) t v, Tryz.f6.params[j]? = some t → args[j]? = some v → Value.okWide Tryz.prog W .any base t v := hval0; have hW' := hW; obtain ⟨p, q, hA0, hV, rfl, hfz, hnd⟩ := hW; have hA : DataW.TrodAll enc Tryz.prog W 0 (fun _ => true) true Tryz.f6.params.toList args.toList ds p := hA0; rw [Tryz.params6] at hA hval; obtain ⟨v0, vs0, d0, ds0, p0, q0, hargs, rfl, rfl, h0, r0⟩ := trodAll_cons hA; obtain ⟨v1, vs1, d1, ds1, p1, q1, rfl, rfl, rfl, h1, r1⟩ := trodAll_cons r0; obtain ⟨rfl, rfl, rfl⟩ := trodAll_nil r1; obtain rfl : args = #[v0, v1] := by cases args; simp_all
 obtain ⟨rfl, rfl⟩ := trodVars_none hV; have k0 := h0; have lt0 : ∀ x ∈ p0, x.block < W.heap.size := by obtain ⟨m, hm⟩ := k0; exact DataW.trod_lt m _ _ _ hm
 obtain ⟨cs0, rfl, _⟩ := okWide_struct Tryz.underlying26 (hval 0 26 v0 rfl rfl); obtain ⟨a0, e0, w0⟩ : ∃ x, k26.rel (heapG W) x (Value.agg cs0).cells.toList ∧ Ok26 x := by
  obtain ⟨m, hm⟩ := h0; exact opensT26 enc W _ _ m _ _ _ hm
 obtain ⟨A0_2, c0_2, A0_3, c0_3, eq0, H0_2, H0_3⟩ : ∃ A0_2 c0_2, ∃ A0_3 c0_3, cs0.toList = [.int .i64 a0.f0, .int .i64 a0.f1, .slice A0_2 a0.f2.length c0_2, .slice A0_3 a0.f3.length c0_3] ∧ Rd kStr (heapG W) A0_2 c0_2 a0.f2 ∧ Rd k26 (heapG W) A0_3 c0_3 a0.f3 := by
  obtain ⟨L0, hL0⟩ : ∃ l, l = cs0.toList := ⟨_, rfl⟩; replace e0 : k26.rel (heapG W) a0 cs0.toList := e0; rw [← hL0] at e0 ⊢; replace e0 := k26_out e0; obtain ⟨_, _, rfl, rfl, ⟨_, _, rfl, rfl, ⟨_, _, rfl, ⟨A0_2, c0_2, rfl, H0_2⟩, ⟨A0_3, c0_3, rfl, H0_3⟩⟩⟩⟩ := e0; exact ⟨_, _, _, _, rfl, H0_2, H0_3⟩
 obtain rfl : cs0 = #[.int .i64 a0.f0, .int .i64 a0.f1, .slice A0_2 a0.f2.length c0_2, .slice A0_3 a0.f3.length c0_3] := Array.toList_inj.1 eq0; obtain ⟨a1, rfl, rfl, rfl, w1⟩ := open_int Tryz.underlying3 (hval 1 3 v1 rfl rfl) h1; clear hA0 hval0 hsz0; obtain ⟨k, hk⟩ := Pure.AskDeeper a0 a1 w0 w1; refine (Gf.grapevinelaw14_AskDeeper_calls (Gf.Tabs.start (Laid.tabs hL hS)) k a0 a1 A0_2 c0_2 H0_2 A0_3 c0_3 H0_3 true hk (Inv.start W)).mono fun e W' hret => ?_
 obtain ⟨_, _, _, rfl, ⟨rfl, rfl, rfl⟩, hI⟩ := hret; have bel := hI.below; exact ⟨_, rfl, _, _, _, [], _, [], hW', trodAll_mk1 (shut_bool Tryz.underlying4 _), (trodAll_cons_mk (Below.trod laidOut (by kernel_rfl) (of_decide_eq_true (by kernel_rfl)) k0 bel lt0) (trodAll_cons_mk (shut_int Tryz.underlying3 w1) trodAll_mk0)), rfl, bel.frame _, fun h => by cases h⟩
theorem over : Rows.askDeeperRow.holds Tryz.pinned (OpenSpec.ofChange Rows.askDeeperSpec) :=
 OpenClaim.holds_of_wide 6 Tryz.f6 rfl rfl rfl rfl rfl rfl rfl ⟨rfl, rfl, rfl, rfl, rfl⟩ rfl rfl rfl rfl rfl (by kernel_rfl) Tryz.func6 (by kernel_rfl)
  (of_decide_eq_true (by kernel_rfl)) (by unfold Func.isWrapper; first | (rw [if_pos (by decide +kernel)]; kernel_rfl) | (rw [if_neg (by decide +kernel)]; exact ⟨rfl, rfl⟩))
  (fun os started H enc _ => lifted os started H enc)
end Go.Proofs.YtmgkpphbehamcaaGreatDoor.askDeeper
namespace Go.Proofs.YtmgkpphbehamcaaGreatDoor
theorem askDeeper_holds : Rows.AskDeeperCardSaid :=
 Claim7.holds_tied_plain_at .later [] [.data, .data, .data, .data, .sentinel, .sentinel, .data, .pinned, .pinned, .pinned, .pinned] true (true, "e63507c4b84cfbff93743d0a7721f21f07faf479c35b660da6caf4e59c03a771") true
  askDeeper.over (fun _ h => by cases h) (by kernel_rfl) (fun _ h => by cases h) askDeeper_row_tie rfl ⟨rfl, rfl⟩ (by kernel_rfl) rfl
  (fun f fn hf hfn => by
   obtain rfl : f = 6 := Option.some.inj ((show Tryz.prog.funcNamed Rows.askDeeperRow.func = some 6 by kernel_rfl).symm.trans hf) |>.symm; obtain rfl : fn = Tryz.f6 := (Option.some.inj (Tryz.func6.symm.trans hfn)).symm; exact ⟨by kernel_rfl, fun j t ht => Laid.stand (p := Tryz.prog) (ps := Tryz.f6.params) (by kernel_rfl) j t ht⟩)
  (by kernel_rfl)
#print axioms askDeeper_holds
end Go.Proofs.YtmgkpphbehamcaaGreatDoor
