/- The plain law of RecordReads. -/
import Derived.Test.YtjmhhmljldjmjaaDoorLRecordReads
import Derived.Test.YtjmhhmljldjmjaaDoorPRec
namespace Go.Proofs.YtjmhhmljldjmjaaDoor.Pure
open Go Go.Gg Go.Gp Gf
set_option linter.unusedVariables false
set_option linter.unusedSimpArgs false
theorem RecordReads : RecordReads_Pure := by
  intro l0 a1 w0 w1
  refine Ev.rounds ?_
  unfold grapevinelaw4_RecordReads
  refine Ev.ite (fun _ => Ev.bind awake_ev (Ev.now _)) (fun hl => ?_)
  have hb := Bytes.of w0.2
  have ha := wf_i64 w1
  refine Ev.pos (by omega) (Ev.bind (Read_ev hb (by omega) ha) (Ev.bind (rRead_ev hb (by omega) ha) (Ev.bind (b := true) ?_ (Ev.now _))))
  refine Ev.pos rfl (Ev.pos rfl (Ev.pos (by simp) ?_))
  exact Ev.bind ((KeptBytes_ev l0 l0 (by omega)).is (decide_eq_true rfl)) (Ev.pos rfl (Ev.bind awake_ev (Ev.now _)))
end Go.Proofs.YtjmhhmljldjmjaaDoor.Pure
