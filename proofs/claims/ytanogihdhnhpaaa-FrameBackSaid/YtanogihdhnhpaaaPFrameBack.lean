/- FrameBack: a frame is found again behind whatever stands ahead; cut short it is none; with one byte another one, that is not of its length, it is none. -/
import Derived.Test.YtanogihdhnhpaaaLFrameBack
import Derived.Test.YtanogihdhnhpaaaPFrame3
namespace Go.Proofs.Ytanogihdhnhpaaa.Pure
open Go Go.Gg Go.Gp Gf
set_option linter.unusedVariables false

theorem FrameBack : FrameBack_Pure := by
  intro kind body ahead cut p by_ hk hb ha _ _ hby
  have hk := wf_i64 hk
  have hby := wf_u8 hby
  refine Ev.rounds ?_
  unfold grapevinelaw6_FrameBack
  refine Ev.bind (b := decide ((body.length : Int) > 300 ∨ (ahead.length : Int) > 300)) ?_ ?_
  · refine Ev.ite (fun h => (Ev.now _).is (decide_eq_true (.inl h)).symm) (fun h => (Ev.now _).is ?_)
    rw [decide_eq_decide]; omega
  · refine Ev.ite (fun h => Ev.bind awake6_ev (Ev.now _)) (fun h => ?_)
    have h : ¬ ((body.length : Int) > 300 ∨ (ahead.length : Int) > 300) := fun h' => h (decide_eq_true h')
    refine Ev.bind (frame_Lay_ev kind body) ?_
    by_cases hkk : 1 ≤ kind ∧ kind ≤ 255
    · have hl : layS kind body = (frameOf kind body, 0) := if_neg (by omega)
      have hB := Bytes.of hb.2
      have hA := Bytes.of ha.2
      have hF := frameOf_bytes kind hB
      have hL := len_frameOf kind body
      rw [hl]
      refine Ev.neg (by simp) ?_
      rw [i64w (by omega)]
      refine Ev.neg (by simp [hL]) ?_
      refine Ev.pos (by simp; omega) (Ev.pos (by simp [hL]; omega) ?_)
      simp only [List.nil_append]
      refine Ev.bind (frame_Next_ev _ _ (hA.app hF) (by simp [hL]; omega) (by omega)) ?_
      obtain ⟨c, hc, c0, c1⟩ := low_ev cut ((frameOf kind body).length : Int) (by omega) (by omega)
      refine Ev.tell (fun _ => hc) (Ev.pos (by omega) ?_)
      refine Ev.bind (frame_Next_ev _ 0 ((hF.take _).drop _) (by simp [hL]; omega) (by omega)) ?_
      have e1 : nextS (ahead ++ frameOf kind body) (ahead.length : Int) = (kind, body, (ahead.length : Int) + (body.length + 12 : Nat), true) := by
        have := nextS_frame (ahead := ahead) (rest := []) hkk (show body.length ≤ 65535 by omega)
        simpa using this
      have e2 : nextS (((frameOf kind body).take c.toNat).drop (0 : Int).toNat) 0 = (0, [], 0, false) := by
        rw [show (0 : Int).toNat = 0 from rfl, List.drop_zero]
        exact nextS_none (nextAt_cut (by omega) (by omega))
      rw [e1, e2]
      refine Ev.bind (b := false) ?_ ?_
      · refine Ev.neg (by simp) (Ev.bind (SameBytes_ev body body hb.1) ?_)
        refine Ev.neg (by simp) ?_
        rw [i64w (by omega)]
        refine Ev.neg (by simp [hL]) (Ev.neg (by simp) (Ev.now _))
      · refine Ev.neg (by simp) ?_
        obtain ⟨j, hj, j0, j1⟩ := low_ev p ((frameOf kind body).length : Int) (by omega) (by omega)
        refine Ev.tell (fun _ => hj) ?_
        refine Ev.bind (b := decide (by_ = 0 ∨ j = 2 ∨ j = 3)) ?_ ?_
        · refine Ev.ite (fun h => (Ev.now _).is (decide_eq_true (.inl h)).symm) (fun h => ?_)
          refine Ev.ite (fun h' => (Ev.now _).is (decide_eq_true (.inr (.inl h'))).symm) (fun h' => (Ev.now _).is ?_)
          simp [h, h']
          rfl
        · refine Ev.ite (fun h => Ev.bind awake6_ev (Ev.now _)) (fun h2 => ?_)
          have h2 : ¬ (by_ = 0 ∨ j = 2 ∨ j = 3) := fun h' => h2 (decide_eq_true h')
          refine Ev.pos (by simp [hL]; omega) (Ev.pos (by omega) (Ev.pos (by omega) ?_))
          have hx := (xor8 (hF.get j.toNat) hby).1
          have hset : Bytes ((frameOf kind body).set j.toNat (Go.bits .xor .u8 ((frameOf kind body).getD j.toNat 0) by_)) := by
            intro x hxm
            rcases List.mem_or_eq_of_mem_set hxm with hm | rfl
            · exact hF x hm
            · exact hx
          refine Ev.name fun v hv => ?_
          subst hv
          refine Ev.bind (frame_Next_ev _ 0 hset (by simp [hL]; omega) (by omega)) ?_
          rw [nextS_none (nextAt_spoilt hB (by omega) (by omega) (by omega) (by omega) hby (by omega))]
          exact Ev.bind (b := true) (Ev.pos rfl (Ev.bind awake6_ev (Ev.now _))) (Ev.now _)
    · have hl : layS kind body = ([], 2) := if_pos (by omega)
      rw [hl]
      refine Ev.pos (by simp) ?_
      refine Ev.bind (b := true) ?_ (Ev.now _)
      exact Ev.pos (by simp) (Ev.pos rfl (Ev.bind awake6_ev (Ev.now _)))
end Go.Proofs.Ytanogihdhnhpaaa.Pure
