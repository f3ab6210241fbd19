/- The plain law of RecordSizes. -/
import Derived.Test.YtjmhhmljldjmjaaDoorLRecordSizes
import Derived.Test.YtjmhhmljldjmjaaDoorPRec
namespace Go.Proofs.YtjmhhmljldjmjaaDoor.Pure
open Go Go.Gg Go.Gp Gf
set_option linter.unusedVariables false
set_option linter.unusedSimpArgs false
theorem RecordSizes : RecordSizes_Pure := by
  intro a0 a1 w0 w1
  refine Ev.rounds ?_
  unfold grapevinelaw4_RecordSizes
  by_cases h1 : (a0.f4.size : Int) > 300
  case pos =>
    simp only [if_pos h1]
    exact Ev.bind (b := true) (Ev.now _) (Ev.pos rfl (Ev.bind awake_ev (Ev.now _)))
  simp only [if_neg h1]
  refine Ev.bind (Ev.now _) (Ev.ite (fun _ => Ev.bind awake_ev (Ev.now _)) (fun h3 => ?_))
  refine Ev.bind (Lay_ev a0) (Ev.bind (Lay_ev a1) ?_)
  simp only [May_some, Option.bind_some]
  by_cases m0 : Mayr a0 <;> by_cases m1 : Mayr a1
  · have e0 : laid a0 = (lay a0, 0) := if_pos m0
    have e1 : laid a1 = (lay a1, 0) := if_pos m1
    rw [e0, e1]
    simp only [m0, m1, decide_true, BEq.rfl, Bool.not_true, Bool.false_eq_true, if_false, Option.bind_some, not_true_eq_false, bne_self_eq_false]
    have hs := m0.2.2.1
    have hl := len_lay a0
    refine Ev.bind (b := true) (Ev.pos ?_ (Ev.bind (SameBytes_ev _ _ (by omega)) ?_)) (Ev.now _)
    · rw [i64w (by omega)]; omega
    simp only [record_Same, Option.bind_some]
    refine Ev.pos ?_ (Ev.bind awake_ev (Ev.now _))
    by_cases e : a0 = a1
    · subst e; simp
    · have : ¬ lay a0 = lay a1 := fun h => e (lay_inj m0 m1 h)
      simp [e, this]
  · have e0 : laid a0 = (lay a0, 0) := if_pos m0
    have e1 : laid a1 = ([], 2) := if_neg m1
    rw [e0, e1]
    simp [m0, m1]
    exact awake_ev
  · have e0 : laid a0 = ([], 2) := if_neg m0
    have e1 : laid a1 = (lay a1, 0) := if_pos m1
    rw [e0, e1]
    simp [m0, m1]
    exact awake_ev
  · have e0 : laid a0 = ([], 2) := if_neg m0
    have e1 : laid a1 = ([], 2) := if_neg m1
    rw [e0, e1]
    simp [m0, m1]
    exact awake_ev
end Go.Proofs.YtjmhhmljldjmjaaDoor.Pure
