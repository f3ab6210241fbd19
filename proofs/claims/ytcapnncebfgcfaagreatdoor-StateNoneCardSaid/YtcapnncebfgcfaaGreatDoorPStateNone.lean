/- The plain law of StateNone. -/
import Derived.Test.YtcapnncebfgcfaaGreatDoorLStateNone
import Derived.Test.YtcapnncebfgcfaaGreatDoorPSt2
namespace Go.Proofs.YtcapnncebfgcfaaGreatDoor.Pure
open Go Go.Gg Go.Gp Gf
set_option linter.unusedVariables false
set_option linter.unusedSimpArgs false
theorem records_none : Ev (fun k => state_State_Records k) ([] : List T38) := by
  unfold state_State_Records state_State_above state_State_V state_State_W
  refine Ev.name fun t ht => ?_
  subst ht
  refine Ev.bind ?_ (Ev.now _)
  refine Ev.name fun t ht => ?_
  subst ht
  refine Ev.name fun t ht => ?_
  subst ht
  refine Ev.bind (b := []) ?_ ?_
  · unfold vector_Lack
    refine Ev.bind (b := false) ((Ev.now _).congr fun k => rfl) (Ev.neg Bool.false_ne_true ?_)
    refine Ev.bind (b := []) (Ev.step (fun k => by rw [vector_Lack_l0]) (Ev.neg (by simp) (Ev.now _))) (Ev.now _)
  · exact Ev.bind (b := ()) (Ev.step (fun k => by rw [state_State_above_l0]) (Ev.neg (by simp) (Ev.now _))) (Ev.now _)
theorem same_none : Ev (fun k => grapevinelaw0_SameRecords k ([] : List T38) []) true := by
  unfold grapevinelaw0_SameRecords
  refine Ev.neg (by simp) ?_
  exact Ev.bind (b := Sum.inr ()) (Ev.step (fun k => by rw [grapevinelaw0_SameRecords_l0]) (Ev.neg (by simp) (Ev.now _))) (Ev.now _)
theorem StateNone : StateNone_Pure := by
  intro a ha
  apply Ev.rounds
  unfold grapevinelaw19_StateNone state_State_Find state_State_Accept state_State_Retire state_State_V state_State_W state_State_Lacks state_State_Copy state_Join
  rw [rec_eq]
  refine Ev.name fun t ht => ?_
  subst ht
  refine Ev.bind (b := true) ?_ (Ev.now _)
  refine Ev.name fun t _ => ?_
  refine Ev.name fun t ht => ?_
  refine Ev.pos ht ?_
  refine Ev.name fun t ht => ?_
  refine Ev.pos ht ?_
  refine Ev.name fun t ht => ?_
  refine Ev.pos (by rw [ht]; rfl) ?_
  refine Ev.name fun t ht => ?_
  refine Ev.pos (by rw [ht]; rfl) ?_
  refine Ev.bind records_none (Ev.pos rfl ?_)
  refine Ev.name fun t ht => ?_
  refine Ev.pos (by rw [ht]; rfl) ?_
  refine Ev.bind (b := true) ?_ ?_
  · unfold grapevinelaw0_SameAnswer
    refine Ev.bind (b := true) ?_ (Ev.now _)
    refine Ev.pos rfl ?_
    refine Ev.bind same_none (Ev.pos rfl ?_)
    refine Ev.bind (SameInts_ev [] [] (by simp)) (Ev.pos (by simp) ?_)
    exact Ev.bind (SameInts_ev [] [] (by simp)) ((Ev.now _).is (by simp))
  · refine Ev.pos rfl ?_
    refine Ev.name fun t _ => ?_
    refine Ev.bind (b := ()) ((Ev.now _).congr fun k => rfl) ?_
    exact Ev.bind awake_ev (Ev.now _)
end Go.Proofs.YtcapnncebfgcfaaGreatDoor.Pure
