/- The plain law of VectorZeros. -/
import Derived.Test.YtmphcmgbognmnaaLVectorZeros
import Derived.Test.YtmphcmgbognmnaaPVec
namespace Go.Proofs.Ytmphcmgbognmnaa.Pure
open Go Go.Gg Go.Gp Gf
set_option linter.unusedVariables false
theorem VectorZeros : VectorZeros_Pure := by
  intro l0 a1 a2 w0 w1 w2
  obtain ⟨t1, e1, h1⟩ := low_some (a := a1) (b := 8) (by omega)
  obtain ⟨t3, e3, h3⟩ := low_some (a := a2) (b := 8) (by omega)
  obtain ⟨n, hn1, hn8, en⟩ := count8 h1
  obtain ⟨m, hm1, hm8, em⟩ := count8 h3
  obtain ⟨a, ha, hlow⟩ := low_ev l0 n hn1 hn8
  have hz := Vec.zero n
  have z0 := getD_zero n
  refine Ev.rounds ?_
  unfold grapevinelaw3_VectorZeros
  simp only [e1, e3, en, em, Option.bind_some, Zero_some hn1 hn8, Zero_some hm1 hm8]
  refine Ev.bind hlow (Ev.bind (b := false) ?_ ?_)
  · refine Ev.bind (join2 ha hz hn8) (Ev.bind (same hn8 (ha.join hz) ha fun i hi => ?_) (Ev.neg (by simp) ?_))
    · rw [getJ ha hz hi, z0]; have := ha.2 i; unfold mx; split <;> omega
    refine Ev.bind (meet2 ha hz hn8) (Ev.bind (same hn8 (ha.meet hz) hz fun i hi => ?_) (Ev.neg (by simp) ?_))
    · rw [getM ha hz hi, z0]; have := ha.2 i; unfold mn; split <;> omega
    refine Ev.bind (join3 ha ha ha hn8) (Ev.bind (same hn8 ((ha.join ha).join ha) ha fun i hi => ?_) (Ev.neg (by simp) ?_))
    · rw [getJ (ha.join ha) ha hi, getJ ha ha hi]; unfold mx; simp
    refine Ev.bind ((Below_ev hz.1 ha.1 hn8).is (decide_eq_true fun i hi => ?_)) (Ev.neg (by simp) ?_)
    · rw [z0]; exact (ha.2 i).1
    refine Ev.bind (Sum_ev hz hn8) ((Ev.now _).is ?_)
    rw [sm_zero]; rfl
  refine Ev.neg (by simp) (Ev.bind (b := true) ?_ (Ev.now _))
  refine Ev.ite (fun _ => ?_) (fun hne => ?_)
  · exact Ev.bind (May_ev hz hn1 hn8) (Ev.pos rfl (Ev.bind awake_ev (Ev.now _)))
  have hu : a.length ≠ (List.replicate m (0 : Int)).length := by rw [ha.1, List.length_replicate]; omega
  have hl := ha.1
  refine Ev.bind (join_unlike hu (by omega)) (Ev.pos rfl ?_)
  refine Ev.bind (meet_unlike hu (by omega)) (Ev.pos rfl ?_)
  refine Ev.bind (Below_unlike fun e => hu e.symm) (Ev.pos rfl ?_)
  refine Ev.bind (Lack_unlike hu) (Ev.pos rfl ?_)
  exact Ev.bind (May_ev hz hn1 hn8) (Ev.pos rfl (Ev.bind awake_ev (Ev.now _)))
end Go.Proofs.Ytmphcmgbognmnaa.Pure
