/- FrameLays: what is laid is the document's, for every kind and every body. -/
import Derived.Test.YtanogihdhnhpaaaLFrameLays
import Derived.Test.YtanogihdhnhpaaaPFrame3
namespace Go.Proofs.Ytanogihdhnhpaaa.Pure
open Go Go.Gg Go.Gp Gf
set_option linter.unusedVariables false

theorem FrameLays : FrameLays_Pure := by
  intro kind body _ hb
  refine Ev.rounds ?_
  unfold grapevinelaw6_FrameLays
  refine Ev.ite (fun h => Ev.bind awake6_ev (Ev.now _)) (fun h => ?_)
  refine Ev.bind (frame_Lay_ev kind body) ?_
  refine Ev.bind (rLay_ev kind body hb.1) ?_
  refine Ev.bind (b := true) ?_ (Ev.now _)
  have hs : Short (layS kind body).1 := by
    unfold layS
    split
    · simp [Short]
    · simp only [Short, len_frameOf, maxLen]; omega
  refine Ev.bind (SameBytes_ev _ _ hs) ?_
  refine Ev.pos (by simp) ?_
  refine Ev.tell (fun _ => rfl) ?_
  exact Ev.pos rfl (Ev.bind awake6_ev (Ev.now _))
end Go.Proofs.Ytanogihdhnhpaaa.Pure
