/- The plain law of StampTells. -/
import Derived.Test.YtmphcmgbognmnaaLStampTells
import Derived.Test.YtmphcmgbognmnaaPStamp
namespace Go.Proofs.Ytmphcmgbognmnaa.Pure
open Go Go.Gg Go.Gp Gf
set_option linter.unusedVariables false
theorem StampTells : StampTells_Pure := by
  intro a0 a1 l2 w0 w1 w2
  refine Ev.rounds ?_
  unfold grapevinelaw2_StampTells
  refine Ev.ite (fun _ => Ev.bind awake_ev (Ev.now _)) (fun hl => ?_)
  refine Ev.bind (b := true) ?_ (Ev.now _)
  simp only [May_some, rMay_some, Less_some, rLess_some, New_some, Option.bind_some, BEq.rfl, if_true]
  refine Ev.bind (Max_ev l2 (by omega)) (Ev.bind (rMax_ev l2 (by omega)) (Ev.pos rfl ?_))
  by_cases h : Mays a0
  · simp only [if_pos h, Option.elim_some, h, decide_true, BEq.rfl, if_true]
    exact Ev.bind awake_ev (Ev.now _)
  · simp only [if_neg h, Option.elim_none, h, decide_false, BEq.rfl, if_true]
    exact Ev.bind awake_ev (Ev.now _)
end Go.Proofs.Ytmphcmgbognmnaa.Pure
