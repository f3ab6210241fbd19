/- The row of TokensJoin, out of its walk and its plain law. Written by gg.py of this repo. -/
import Derived.Test.YtjmhhmljldjmjaaDoorRows
import Derived.Test.YtjmhhmljldjmjaaDoorLTokensJoin
import Derived.Test.YtjmhhmljldjmjaaDoorPTokensJoin
import Derived.Test.YtjmhhmljldjmjaaDoorGgJ
import Derived.Test.YtjmhhmljldjmjaaDoorW6
import Derived.Test.YtjmhhmljldjmjaaDoorTie
import Derived.Test.YtjmhhmljldjmjaaDoorCards
import Derived.ChangeSame
import Derived.ChangeVars
import Derived.JoinedOf
import Derived.RowKit
import Derived.RowKitTokens
import Derived.Stop.Joined
import Derived.SevenTiedAt
namespace Go.Proofs.YtjmhhmljldjmjaaDoor.tokensJoin
open Go.ChangeShapes Go.WideShapes Go.ChangeAt Go.RowKit Go.Gg
open Go.ChangeMaps (open_string shut_string)
set_option linter.unusedVariables false
theorem own : ownKnob Tryd.prog.godebug = none := by kernel_rfl
theorem laidOut : laidOutB Tryd.prog = true := by kernel_rfl
set_option maxRecDepth 100000 in
theorem lifted (os : Os) (started : os.Started) (H : Type) (enc : TypeId × Value → H) :
    ReturnsInHanded {} Tryd.checked os 11 .any ((fun w args => (Rows.tokensJoinSpec.pre enc Tryd.prog Tryd.f11 [] false w args ∧ laidMetH Tryd.prog Laid.list w) ∧ sizedMet enc Tryd.prog Tryd.f11 (OpenSpec.ofChange Rows.tokensJoinSpec) false w args)) (Rows.tokensJoinSpec.post enc Tryd.prog Tryd.f11 false true false false) := by
  refine returnsInHanded_of_change_and (C := Tryd.checked) (X := fun w _ => laidMetH Tryd.prog Laid.list w) (fun _ _ _ hh h => h.of_heap hh) own started (by kernel_rfl) Tryd.func11
    (ChangeSpec.witness_shaped (enc := enc) (C := Tryd.checked) (os := os) (X := fun w _ => laidMetH Tryd.prog Laid.list w) false (World.laidAll Tryd.prog os Laid.list) #[.string ByteArray.empty, .string ByteArray.empty, .int .i64 0] 8 (World.laidAll_os _ _ _) (World.shaped_of_ZipB (by kernel_rfl) (by kernel_rfl)) (by kernel_rfl) (by kernel_rfl) (by kernel_rfl) (Laid.met os _)) ?_
  intro W base args ds gs before hval0 hW hcnd hsz0 hL _
  have hval : ∀ (j : Nat) t v, Tryd.f11.params[j]? = some t → args[j]? = some v → Value.okWide Tryd.prog W .any base t v := hval0
  have hW' := hW
  obtain ⟨p, q, hA0, hV, rfl, hfz, hnd⟩ := hW
  have hA : DataW.TrodAll enc Tryd.prog W 0 (fun _ => true) true Tryd.f11.params.toList args.toList ds p := hA0
  rw [Tryd.params11] at hA hval
  obtain ⟨v0, vs0, d0, ds0, p0, q0, hargs, rfl, rfl, h0, r0⟩ := trodAll_cons hA
  obtain ⟨v1, vs1, d1, ds1, p1, q1, rfl, rfl, rfl, h1, r1⟩ := trodAll_cons r0
  obtain ⟨v2, vs2, d2, ds2, p2, q2, rfl, rfl, rfl, h2, r2⟩ := trodAll_cons r1
  obtain ⟨rfl, rfl, rfl⟩ := trodAll_nil r2
  obtain rfl : args = #[v0, v1, v2] := by cases args; simp_all
  obtain ⟨rfl, rfl⟩ := trodVars_none hV
  obtain ⟨a0, rfl, rfl, rfl, y0⟩ := open_string Tryd.underlying9 (hval 0 9 v0 rfl rfl) h0
  obtain ⟨a1, rfl, rfl, rfl, y1⟩ := open_string Tryd.underlying9 (hval 1 9 v1 rfl rfl) h1
  obtain ⟨a2, rfl, rfl, rfl, w2⟩ := open_int Tryd.underlying3 (hval 2 3 v2 rfl rfl) h2
  have hsz : (DataW.weightsEach Tryd.prog [9, 9, 3] [.lit (.string a0.data.toList), .lit (.string a1.data.toList), _]).all (· ≤ reachBytes) = true := hsz0
  have u0 : a0.size ≤ 140737488351232 := by
    have h1 := of_decide_eq_true (List.all_eq_true.1 hsz a0.data.toList.length (by simp [DataW.weightsEach, DataW.weights]))
    rw [Array.length_toList] at h1
    exact h1
  have u1 : a1.size ≤ 140737488351232 := by
    have h1 := of_decide_eq_true (List.all_eq_true.1 hsz a1.data.toList.length (by simp [DataW.weightsEach, DataW.weights]))
    rw [Array.length_toList] at h1
    exact h1
  clear hA0 hval0 hsz0
  obtain ⟨k, hk⟩ := Pure.TokensJoin a0 a1 a2 u0 u1 w2
  refine (Gf.grapevinelaw1_TokensJoin_calls (Gf.Tabs.start (Laid.tabs hL)) k a0 a1 a2 true hk (Inv.start W)).mono fun e W' hret => ?_
  obtain ⟨_, _, _, rfl, ⟨rfl, rfl, rfl⟩, hI⟩ := hret
  have bel := hI.below
  exact ⟨_, rfl, _, _, _, [], _, [], hW', trodAll_mk1 (shut_bool Tryd.underlying4 _), (trodAll_cons_mk (shut_string Tryd.underlying9 y0) (trodAll_cons_mk (shut_string Tryd.underlying9 y1) (trodAll_cons_mk (shut_int Tryd.underlying3 w2) trodAll_mk0))), rfl, bel.frame _, fun h => by cases h⟩
theorem over : Rows.tokensJoinRow.holds Tryd.pinned (OpenSpec.ofChange Rows.tokensJoinSpec) :=
  OpenClaim.holds_of_wide 11 Tryd.f11 rfl rfl rfl rfl rfl rfl rfl ⟨rfl, rfl, rfl, rfl, rfl⟩ rfl rfl rfl rfl rfl (by kernel_rfl) Tryd.func11 (by kernel_rfl)
    (of_decide_eq_true (by kernel_rfl)) (by unfold Func.isWrapper; first | (rw [if_pos (by decide +kernel)]; kernel_rfl) | (rw [if_neg (by decide +kernel)]; exact ⟨rfl, rfl⟩))
    (fun os started H enc _ => lifted os started H enc)
end Go.Proofs.YtjmhhmljldjmjaaDoor.tokensJoin
namespace Go.Proofs.YtjmhhmljldjmjaaDoor
theorem tokensJoin_holds : Rows.TokensJoinCardSaid :=
  Claim7.holds_tied_plain_at .later [] [.data, .data, .pinned, .pinned, .pinned, .pinned] true (true, "89762376a40f45249b109ebb6d5187328a4e4b27c6851efefbf97ff81e4550fb") false
    tokensJoin.over (fun _ h => by cases h) (by kernel_rfl) (fun _ h => by cases h) tokensJoin_row_tie rfl ⟨rfl, rfl⟩ (by kernel_rfl) rfl
    (fun f fn hf hfn => by
      obtain rfl : f = 11 := Option.some.inj ((show Tryd.prog.funcNamed Rows.tokensJoinRow.func = some 11 by kernel_rfl).symm.trans hf) |>.symm
      obtain rfl : fn = Tryd.f11 := (Option.some.inj (Tryd.func11.symm.trans hfn)).symm
      exact ⟨by kernel_rfl, fun j t ht => Laid.stand (p := Tryd.prog) (ps := Tryd.f11.params) (by kernel_rfl) j t ht⟩)
    (by kernel_rfl)
#print axioms tokensJoin_holds
end Go.Proofs.YtjmhhmljldjmjaaDoor
