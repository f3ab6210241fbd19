/- The plain law of StampNone. -/
import Derived.Test.YtmphcmgbognmnaaLStampNone
import Derived.Test.YtmphcmgbognmnaaPStamp
namespace Go.Proofs.Ytmphcmgbognmnaa.Pure
open Go Go.Gg Go.Gp Gf
set_option linter.unusedVariables false
theorem StampNone : StampNone_Pure := by
  intro a0 w0
  refine Ev.rounds ?_
  unfold grapevinelaw2_StampNone
  simp only [stamp_Clock_Tick_22, stamp_Clock_See_23, stamp_Clock_Last_24, Option.bind_some, if_true]
  exact Ev.bind (Ev.bind awake_ev (Ev.now _)) (Ev.now _)
end Go.Proofs.Ytmphcmgbognmnaa.Pure
