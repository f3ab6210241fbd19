/- The plain law of VectorLattice. -/
import Derived.Test.YtmphcmgbognmnaaLVectorLattice
import Derived.Test.YtmphcmgbognmnaaPVec
namespace Go.Proofs.Ytmphcmgbognmnaa.Pure
open Go Go.Gg Go.Gp Gf
set_option linter.unusedVariables false
theorem mx_comm3 (a b c : Int) : mx (mx a b) c = mx (mx (mx c a) b) a := by unfold mx; repeat' split <;> omega
theorem VectorLattice : VectorLattice_Pure := by
  intro l0 l1 l2 a3 w0 w1 w2 w3
  obtain ⟨t1, e1, h1⟩ := low_some (a := a3) (b := 8) (by omega)
  obtain ⟨n, hn1, hn8, en⟩ := count8 h1
  obtain ⟨a, ha, hla⟩ := low_ev l0 n hn1 hn8
  obtain ⟨b, hb, hlb⟩ := low_ev l1 n hn1 hn8
  obtain ⟨c, hc, hlc⟩ := low_ev l2 n hn1 hn8
  refine Ev.rounds ?_
  unfold grapevinelaw3_VectorLattice
  simp only [e1, en, Option.bind_some]
  have hab := ha.join hb
  have hj := hab.join hc
  have mab := ha.meet hb
  have hm := mab.meet hc
  refine Ev.bind hla (Ev.bind hlb (Ev.bind hlc (Ev.bind (join3 ha hb hc hn8) (Ev.bind (meet3 ha hb hc hn8) (Ev.bind (b := false) ?_ ?_)))))
  · refine Ev.bind (join4 hc ha hb ha hn8) (Ev.bind (same hn8 hj (((hc.join ha).join hb).join ha) fun i hi => ?_) (Ev.neg (by simp) ?_))
    · rw [getJ hab hc hi, getJ ha hb hi, getJ ((hc.join ha).join hb) ha hi, getJ (hc.join ha) hb hi, getJ hc ha hi]; unfold mx; repeat' split <;> omega
    refine Ev.bind (meet4 hc ha hb ha hn8) (Ev.bind (same hn8 hm (((hc.meet ha).meet hb).meet ha) fun i hi => ?_) (Ev.neg (by simp) ?_))
    · rw [getM mab hc hi, getM ha hb hi, getM ((hc.meet ha).meet hb) ha hi, getM (hc.meet ha) hb hi, getM hc ha hi]; unfold mn; repeat' split <;> omega
    refine Ev.bind (join2 ha hb hn8) (Ev.bind (join2 hab hc hn8) (Ev.bind (same hn8 hj hj fun i hi => rfl) (Ev.neg (by simp) ?_)))
    refine Ev.bind (meet2 ha hb hn8) (Ev.bind (join2 ha mab hn8) (Ev.bind (same hn8 (ha.join mab) ha fun i hi => ?_) (Ev.neg (by simp) ?_)))
    · rw [getJ ha mab hi, getM ha hb hi]; unfold mx mn; repeat' split <;> omega
    refine Ev.bind (join2 ha hb hn8) (Ev.bind (meet2 ha hab hn8) (Ev.bind (same hn8 (ha.meet hab) ha fun i hi => ?_) ((Ev.now _).is rfl)))
    · rw [getM ha hab hi, getJ ha hb hi]; unfold mx mn; repeat' split <;> omega
  refine Ev.neg (by simp) (Ev.bind (b := true) ?_ (Ev.now _))
  refine Ev.bind ((Below_ev ha.1 hj.1 hn8).is (decide_eq_true fun i hi => ?_)) (Ev.pos rfl ?_)
  · rw [getJ hab hc hi, getJ ha hb hi]; unfold mx; repeat' split <;> omega
  refine Ev.bind ((Below_ev hm.1 ha.1 hn8).is (decide_eq_true fun i hi => ?_)) (Ev.pos rfl ?_)
  · rw [getM mab hc hi, getM ha hb hi]; unfold mn; repeat' split <;> omega
  refine Ev.bind ((Below_ev hb.1 hj.1 hn8).is (decide_eq_true fun i hi => ?_)) (Ev.pos rfl ?_)
  · rw [getJ hab hc hi, getJ ha hb hi]; unfold mx; repeat' split <;> omega
  refine Ev.bind ((Below_ev hm.1 hc.1 hn8).is (decide_eq_true fun i hi => ?_)) (Ev.pos rfl ?_)
  · rw [getM mab hc hi, getM ha hb hi]; unfold mn; repeat' split <;> omega
  refine Ev.bind (May_ev hj hn1 hn8) (Ev.pos rfl ?_)
  refine Ev.bind (Below_ev ha.1 hb.1 hn8) (Ev.bind (join2 ha hb hn8) (Ev.bind (SameInts_ev _ _ (by rw [hab.1]; omega)) (Ev.pos ?_ ?_)))
  · have : Le n a b ↔ zip mx a b = b := by
      constructor
      · intro h; exact vec_ext hab.1 hb.1 fun i hi => by rw [getJ ha hb hi]; have := h i hi; unfold mx; split <;> omega
      · intro h i hi
        have e := getJ ha hb hi
        rw [h] at e; rw [e]; unfold mx; split <;> omega
    simp [this]
  refine Ev.bind (Sum_ev hj hn8) (Ev.bind (Sum_ev ha hn8) (Ev.pos ?_ ?_))
  · exact sm_le n fun i hi => by rw [getJ hab hc hi, getJ ha hb hi]; unfold mx; repeat' split <;> omega
  exact Ev.bind awake_ev (Ev.now _)
end Go.Proofs.Ytmphcmgbognmnaa.Pure
