/- FrameFinds: what is found at any place of any bytes, and how many frames there are, is the document's; what was lent is kept. -/
import Derived.Test.YtanogihdhnhpaaaLFrameFinds
import Derived.Test.YtanogihdhnhpaaaPFrame3
namespace Go.Proofs.Ytanogihdhnhpaaa.Pure
open Go Go.Gg Go.Gp Gf
set_option linter.unusedVariables false

theorem nextS_short (l : List Int) (p : Int) (hl : l.length ≤ 2000) : (nextS l p).2.1.length ≤ 2000 := by
  unfold nextS
  split
  · split
    · rename_i k b n hn
      unfold nextAt at hn
      split at hn
      · cases hn
      · split at hn
        · split at hn
          · cases hn; simp; omega
          · cases hn
        · cases hn
    · simp
  · simp

theorem FrameFinds : FrameFinds_Pure := by
  intro l p hb hp
  have hp := wf_i64 hp
  refine Ev.rounds ?_
  unfold grapevinelaw6_FrameFinds
  refine Ev.ite (fun h => Ev.bind awake6_ev (Ev.now _)) (fun h => ?_)
  have hB := Bytes.of hb.2
  refine Ev.pos (by omega) ?_
  refine Ev.bind (frame_Next_ev l p hB (by omega) hp) ?_
  refine Ev.bind (rNext_ev l p hB (by omega) hp) ?_
  refine Ev.bind (frame_Count_ev l hB (by omega)) ?_
  refine Ev.bind (rCount_ev l hB (by omega)) ?_
  have hs := nextS_short l p (by omega)
  have hk := KeptBytes_ev l l (by omega)
  refine Ev.bind (b := true) ?_ ?_
  · refine Ev.pos rfl (Ev.bind (SameBytes_ev _ _ (by simp only [Short, maxLen]; omega)) ?_)
    refine Ev.pos (by simp) (Ev.pos rfl (Ev.pos (by simp) (Ev.pos rfl (Ev.pos rfl ?_))))
    exact Ev.bind hk ((Ev.now _).is (by simp))
  · refine Ev.bind (OverBytes_ev _ (by omega)) ?_
    refine Ev.bind (b := true) (Ev.pos rfl ?_) (Ev.now _)
    exact Ev.bind hk (Ev.pos (by simp) (Ev.bind awake6_ev (Ev.now _)))
end Go.Proofs.Ytanogihdhnhpaaa.Pure
