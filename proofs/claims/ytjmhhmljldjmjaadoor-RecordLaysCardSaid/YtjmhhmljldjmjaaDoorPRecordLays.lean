/- The plain law of RecordLays. -/
import Derived.Test.YtjmhhmljldjmjaaDoorLRecordLays
import Derived.Test.YtjmhhmljldjmjaaDoorPRec
namespace Go.Proofs.YtjmhhmljldjmjaaDoor.Pure
open Go Go.Gg Go.Gp Gf
set_option linter.unusedVariables false
set_option linter.unusedSimpArgs false
theorem laid_short (r : T27) : (laid r).1.length ≤ 132 := by
  unfold laid
  split
  · rename_i h; have := h.2.2.1; simp only; rw [len_lay]; omega
  · simp
theorem RecordLays : RecordLays_Pure := by
  intro a0 w0
  refine Ev.rounds ?_
  unfold grapevinelaw4_RecordLays
  refine Ev.ite (fun _ => Ev.bind awake_ev (Ev.now _)) (fun _ => ?_)
  have hs := laid_short a0
  have hsame := (SameBytes_ev (laid a0).1 (laid a0).1 (by omega)).is (decide_eq_true rfl)
  refine Ev.bind (Lay_ev a0) (Ev.bind (rLay_ev a0) (Ev.bind (b := true) (Ev.bind hsame (Ev.pos rfl ?_)) ?_))
  · simp only [grapevinelaw0_Num, Option.bind_some, BEq.rfl]; exact Ev.now _
  · refine Ev.bind (OverBytes_ev _ (by omega)) (Ev.bind (Lay_ev a0) (Ev.bind (b := true) (Ev.pos rfl (Ev.bind hsame (Ev.pos rfl (Ev.bind awake_ev (Ev.now _))))) (Ev.now _)))
end Go.Proofs.YtjmhhmljldjmjaaDoor.Pure
