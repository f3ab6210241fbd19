/- The row of AskReads, out of its walk and its plain law. Written by gg.py of this repo. -/
import Derived.Test.YtmgkpphbehamcaaGreatDoorRows
import Derived.Test.YtmgkpphbehamcaaGreatDoorLAskReads
import Derived.Test.YtmgkpphbehamcaaGreatDoorPDoc9
import Derived.Test.YtmgkpphbehamcaaGreatDoorGgH
import Derived.Test.YtmgkpphbehamcaaGreatDoorW6
import Derived.Test.YtmgkpphbehamcaaGreatDoorTie
import Derived.Test.YtmgkpphbehamcaaGreatDoorCards
import Derived.ChangeSame
import Derived.ChangeVars
import Derived.JoinedOf
import Derived.RowKit
import Derived.RowKitTokens
import Derived.Stop.Joined
import Derived.SevenTiedAt
namespace Go.Proofs.YtmgkpphbehamcaaGreatDoor.askReads
open Go.ChangeShapes Go.WideShapes Go.ChangeAt Go.RowKit Go.Gg
open Go.ChangeMaps (open_string shut_string)
set_option linter.unusedVariables false
theorem own : ownKnob Tryz.prog.godebug = none := by kernel_rfl
theorem laidOut : laidOutB Tryz.prog = true := by kernel_rfl
set_option maxRecDepth 100000 in
theorem lifted (os : Os) (started : os.Started) (H : Type) (enc : TypeId × Value → H) :
  ReturnsInHanded {} Tryz.checked os 3 .any ((fun w args => (Rows.askReadsSpec.pre enc Tryz.prog Tryz.f3 [] false w args ∧ laidMetH Tryz.prog Laid.list w) ∧ sizedMet enc Tryz.prog Tryz.f3 (OpenSpec.ofChange Rows.askReadsSpec) false w args)) (Rows.askReadsSpec.post enc Tryz.prog Tryz.f3 false true false false) := by
 refine Laid.row started (by kernel_rfl) Tryz.func3
  (ChangeSpec.witness_shaped (enc := enc) (C := Tryz.checked) (os := os) (X := fun w _ => laidMetH Tryz.prog Laid.list w) false (World.laidAll Tryz.prog os Laid.list) #[.string ByteArray.empty] 8 (World.laidAll_os _ _ _) (World.shaped_of_ZipB (by kernel_rfl) (by kernel_rfl)) (by kernel_rfl) (by kernel_rfl) (by kernel_rfl) (Laid.met os _)) ?_
 intro W base args ds gs before hval0 hW hcnd hsz0 hL hS _; have hval : ∀ (j : Nat) t v, Tryz.f3.params[j]? = some t → args[j]? = some v → Value.okWide Tryz.prog W .any base t v := hval0; have hW' := hW; obtain ⟨p, q, hA0, hV, rfl, hfz, hnd⟩ := hW; have hA : DataW.TrodAll enc Tryz.prog W 0 (fun _ => true) true Tryz.f3.params.toList args.toList ds p := hA0; rw [Tryz.params3] at hA hval; obtain ⟨v0, vs0, d0, ds0, p0, q0, hargs, rfl, rfl, h0, r0⟩ := trodAll_cons hA; obtain ⟨rfl, rfl, rfl⟩ := trodAll_nil r0; obtain rfl : args = #[v0] := by cases args; simp_all
 obtain ⟨rfl, rfl⟩ := trodVars_none hV; obtain ⟨a0, rfl, rfl, rfl, y0⟩ := open_string Tryz.underlying9 (hval 0 9 v0 rfl rfl) h0; have hsz : (DataW.weightsEach Tryz.prog [9] [.lit (.string a0.data.toList)]).all (· ≤ reachBytes) = true := hsz0; have u0 : a0.size ≤ 140737488351232 := by
  have h1 := of_decide_eq_true (List.all_eq_true.1 hsz a0.data.toList.length (by simp [DataW.weightsEach, DataW.weights])); rw [Array.length_toList] at h1; exact h1
 clear hA0 hval0 hsz0; obtain ⟨k, hk⟩ := Pure.AskReads a0 u0; refine (Gf.grapevinelaw14_AskReads_calls (Gf.Tabs.start (Laid.tabs hL hS)) k a0 true hk (Inv.start W)).mono fun e W' hret => ?_
 obtain ⟨_, _, _, rfl, ⟨rfl, rfl, rfl⟩, hI⟩ := hret; have bel := hI.below; exact ⟨_, rfl, _, _, _, [], _, [], hW', trodAll_mk1 (shut_bool Tryz.underlying4 _), (trodAll_cons_mk (shut_string Tryz.underlying9 y0) trodAll_mk0), rfl, bel.frame _, fun h => by cases h⟩
theorem over : Rows.askReadsRow.holds Tryz.pinned (OpenSpec.ofChange Rows.askReadsSpec) :=
 OpenClaim.holds_of_wide 3 Tryz.f3 rfl rfl rfl rfl rfl rfl rfl ⟨rfl, rfl, rfl, rfl, rfl⟩ rfl rfl rfl rfl rfl (by kernel_rfl) Tryz.func3 (by kernel_rfl)
  (of_decide_eq_true (by kernel_rfl)) (by unfold Func.isWrapper; first | (rw [if_pos (by decide +kernel)]; kernel_rfl) | (rw [if_neg (by decide +kernel)]; exact ⟨rfl, rfl⟩))
  (fun os started H enc _ => lifted os started H enc)
end Go.Proofs.YtmgkpphbehamcaaGreatDoor.askReads
namespace Go.Proofs.YtmgkpphbehamcaaGreatDoor
theorem askReads_holds : Rows.AskReadsCardSaid :=
 Claim7.holds_tied_plain_at .later [] [.data, .data, .data, .data, .sentinel, .sentinel, .data, .pinned, .pinned, .pinned, .pinned] true (true, "e63507c4b84cfbff93743d0a7721f21f07faf479c35b660da6caf4e59c03a771") true
  askReads.over (fun _ h => by cases h) (by kernel_rfl) (fun _ h => by cases h) askReads_row_tie rfl ⟨rfl, rfl⟩ (by kernel_rfl) rfl
  (fun f fn hf hfn => by
   obtain rfl : f = 3 := Option.some.inj ((show Tryz.prog.funcNamed Rows.askReadsRow.func = some 3 by kernel_rfl).symm.trans hf) |>.symm; obtain rfl : fn = Tryz.f3 := (Option.some.inj (Tryz.func3.symm.trans hfn)).symm; exact ⟨by kernel_rfl, fun j t ht => Laid.stand (p := Tryz.prog) (ps := Tryz.f3.params) (by kernel_rfl) j t ht⟩)
  (by kernel_rfl)
#print axioms askReads_holds
end Go.Proofs.YtmgkpphbehamcaaGreatDoor
