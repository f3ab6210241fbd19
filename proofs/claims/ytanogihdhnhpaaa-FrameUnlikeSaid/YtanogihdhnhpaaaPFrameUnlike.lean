/- FrameUnlike: two frames are the same only if their kinds and bodies are; one behind the other they are found each; of the first one without its first byte there is none that is all of it. -/
import Derived.Test.YtanogihdhnhpaaaLFrameUnlike
import Derived.Test.YtanogihdhnhpaaaPFrame3
namespace Go.Proofs.Ytanogihdhnhpaaa.Pure
open Go Go.Gg Go.Gp Gf
set_option linter.unusedVariables false

theorem FrameUnlike : FrameUnlike_Pure := by
  intro x body y more _ hb _ hm
  refine Ev.rounds ?_
  unfold grapevinelaw6_FrameUnlike
  refine Ev.bind (b := decide ((body.length : Int) > 300 ∨ (more.length : Int) > 300)) ?_ ?_
  · refine Ev.ite (fun h => (Ev.now _).is (decide_eq_true (.inl h)).symm) (fun h => (Ev.now _).is ?_)
    rw [decide_eq_decide]; omega
  · refine Ev.ite (fun h => Ev.bind awake6_ev (Ev.now _)) (fun h => ?_)
    have h : ¬ ((body.length : Int) > 300 ∨ (more.length : Int) > 300) := fun h' => h (decide_eq_true h')
    obtain ⟨p, hp, p0, p1⟩ := low_ev x 255 (by omega) (by omega)
    obtain ⟨q, hq, q0, q1⟩ := low_ev y 255 (by omega) (by omega)
    refine Ev.tell (fun _ => hp) (Ev.tell (fun _ => hq) ?_)
    rw [i64w (x := 1 + p) (by omega), i64w (x := 1 + q) (by omega), i64w (x := (body.length : Int) + 12) (by omega), i64w (x := (more.length : Int) + 12) (by omega)]
    generalize hk : 1 + p = k
    generalize hj : 1 + q = j
    have hkk : 1 ≤ k ∧ k ≤ 255 := by omega
    have hjj : 1 ≤ j ∧ j ≤ 255 := by omega
    have hl : layS k body = (frameOf k body, 0) := if_neg (by omega)
    have hl' : layS j more = (frameOf j more, 0) := if_neg (by omega)
    have hF := frameOf_bytes k (Bytes.of hb.2)
    have hF' := frameOf_bytes j (Bytes.of hm.2)
    have hL := len_frameOf k body
    have hL' := len_frameOf j more
    refine Ev.bind (frame_Lay_ev k body) (Ev.bind (frame_Lay_ev j more) ?_)
    rw [hl, hl']
    refine Ev.bind (b := false) ?_ ?_
    · refine Ev.neg (by simp) (Ev.neg (by simp) (Ev.neg (by simp [hL]) (Ev.neg (by simp [hL']) ?_)))
      refine Ev.bind (SameBytes_ev _ _ (by simp only [Short, maxLen, hL]; omega)) ?_
      by_cases e : k = j
      · refine Ev.pos e (Ev.bind (SameBytes_ev body more hb.1) ((Ev.now _).is ?_))
        subst e
        have : decide (frameOf k body = frameOf k more) = decide (body = more) := by
          rw [decide_eq_decide]
          exact ⟨fun e => (frame_inj hkk hkk (by omega) (by omega) e).2, fun e => by rw [e]⟩
        rw [this]; simp
      · refine Ev.neg e ((Ev.now _).is ?_)
        have : decide (frameOf k body = frameOf j more) = false := decide_eq_false (fun e' => e (frame_inj hkk hjj (by omega) (by omega) e').1)
        rw [this]; rfl
    · refine Ev.neg (by simp) (Ev.pos (by simp [hL]; omega) (Ev.pos (by simp [hL, hL']; omega) ?_))
      simp only [List.nil_append]
      have hbb := hF.app hF'
      have hbl : (frameOf k body ++ frameOf j more).length ≤ 4611686018427387904 := by simp [hL, hL']; omega
      refine Ev.name fun v hv => ?_
      subst hv
      refine Ev.bind (frame_Next_ev _ 0 hbb hbl (by omega)) (Ev.bind (frame_Next_ev _ _ hbb hbl (by omega)) (Ev.bind (frame_Next_ev _ 1 hbb hbl (by omega)) ?_))
      have e1 := nextS_frame0 (rest := frameOf j more) hkk (show body.length ≤ 65535 by omega)
      have e2 := nextS_frame (ahead := frameOf k body) (rest := []) hjj (show more.length ≤ 65535 by omega)
      rw [List.append_nil] at e2
      have e3 := next_1 (kind := k) (body := body) (rest := frameOf j more) (by omega)
      rw [e1, e2]
      refine Ev.bind (b := true) ?_ (Ev.now _)
      refine Ev.pos rfl (Ev.pos rfl (Ev.pos rfl (Ev.pos rfl ?_)))
      refine Ev.bind (SameBytes_ev body body hb.1) (Ev.pos (by simp) ?_)
      refine Ev.bind (SameBytes_ev more more hm.1) (Ev.pos (by simp) ?_)
      refine Ev.pos (by simp [hL]) (Ev.pos (by simp [hL, hL']) (Ev.pos (by rw [hL]; simpa using e3) ?_))
      exact Ev.bind awake6_ev (Ev.now _)
end Go.Proofs.Ytanogihdhnhpaaa.Pure
