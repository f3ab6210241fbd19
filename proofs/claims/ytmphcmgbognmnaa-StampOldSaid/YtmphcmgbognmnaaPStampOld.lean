/- The plain law of StampOld. -/
import Derived.Test.YtmphcmgbognmnaaLStampOld
import Derived.Test.YtmphcmgbognmnaaPStamp2
namespace Go.Proofs.Ytmphcmgbognmnaa.Pure
open Go Go.Gg Go.Gp Gf
set_option linter.unusedVariables false
set_option linter.unusedSimpArgs false
theorem see_old {c s : T23} {n : Int} (hs : Mays s) (hw : Wall n) (hl : ¬ Lt c s) : see c s n = if s.f0 - n > 1000 then (5, c) else ((tick c n).2.1, (tick c n).2.2) := by
  rw [see_good ⟨hs, hw⟩, tick_good hw]
  have e1 : mw c s = c.f0 := by unfold mw; unfold Lt at hl; split <;> omega
  have e2 : tops c s = c := by
    unfold tops; split
    · rfl
    · rename_i h; unfold Lt at hl h; exact ext23 (by omega) (by omega)
  rw [e1, e2]
  by_cases h1 : s.f0 - n > 1000
  · rw [if_pos h1, if_pos h1]
  · rw [if_neg h1, if_neg h1]
    by_cases h2 : n > c.f0
    · rw [if_pos h2, if_pos h2]
    · rw [if_neg h2, if_neg h2]
      by_cases h3 : c.f1 + 1 > 65535
      · rw [if_pos h3, if_pos h3]
      · rw [if_neg h3, if_neg h3]
theorem StampOld : StampOld_Pure := by
  intro a0 a1 a2 w0 w1 w2
  refine Ev.rounds ?_
  unfold grapevinelaw2_StampOld
  simp only [New_some, Option.bind_some]
  by_cases h0 : Mays a0
  case neg =>
    simp only [h0, if_false, Option.elim_none]
    exact Ev.bind awake_ev (Ev.now _)
  simp only [h0, if_true, Option.elim_some, May_some, Less_some, Option.bind_some]
  by_cases h1 : Mays a1
  case neg =>
    simp only [h1, decide_false, Bool.not_false, if_true, Option.bind_some]
    exact Ev.bind awake_ev (Ev.now _)
  by_cases h2 : Lt a0 a1
  case pos =>
    simp only [h1, h2, decide_true, Bool.not_true, Bool.false_eq_true, if_false, if_true, Option.bind_some]
    exact Ev.bind awake_ev (Ev.now _)
  by_cases h3 : a2 < 0
  case pos =>
    simp only [h1, h2, h3, decide_true, decide_false, Bool.not_true, Bool.false_eq_true, if_false, if_true, Option.bind_some]
    exact Ev.bind awake_ev (Ev.now _)
  by_cases h4 : a2 > 1099511627776
  case pos =>
    simp only [h1, h2, h3, h4, decide_true, decide_false, Bool.not_true, Bool.false_eq_true, if_false, if_true, Option.bind_some]
    exact Ev.bind awake_ev (Ev.now _)
  have hw : Wall a2 := ⟨by omega, by omega⟩
  simp only [h1, h2, h3, h4, decide_true, decide_false, Bool.not_true, Bool.false_eq_true, if_false, Option.bind_some, Tick_some h0]
  refine Ev.bind (See_ev h0 a1 a2) ?_
  have ew : IntKind.i64.wrap (a2 + 1000) = a2 + 1000 := i64w (by omega)
  rw [ew, see_old h1 hw h2]
  by_cases h5 : a1.f0 - a2 > 1000
  · have h6 : a1.f0 > a2 + 1000 := by omega
    simp only [h5, if_true, h6, Last_some, Option.bind_some]
    exact Ev.bind (Ev.bind awake_ev (Ev.now _)) (Ev.now _)
  · have h6 : ¬ (tick a0 a2).2.1 = 5 := by
      rw [tick_good hw]; split
      · simp
      · split <;> simp
    simp only [h5, if_false, h6, Last_some, Option.bind_some, if_true]
    refine Ev.bind (b := true) (Ev.ite (fun _ => Ev.bind awake_ev (Ev.now _)) (fun h7 => ?_)) (Ev.now _)
    have h7 : (tick a0 a2).2.1 = 0 := by simpa using h7
    exact Ev.pos (tick_ok h0 h7).1 (Ev.bind awake_ev (Ev.now _))
end Go.Proofs.Ytmphcmgbognmnaa.Pure
