/- The plain law of StampRises. -/
import Derived.Test.YtmphcmgbognmnaaLStampRises
import Derived.Test.YtmphcmgbognmnaaPStamp2
namespace Go.Proofs.Ytmphcmgbognmnaa.Pure
open Go Go.Gg Go.Gp Gf
set_option linter.unusedVariables false
set_option linter.unusedSimpArgs false
theorem StampRises : StampRises_Pure := by
  intro a0 l1 w0 w1
  refine Ev.rounds ?_
  unfold grapevinelaw2_StampRises
  simp only [New_some, Option.bind_some]
  by_cases h0 : Mays a0
  case neg =>
    simp only [h0, if_false, Option.elim_none]
    exact Ev.bind awake_ev (Ev.now _)
  simp only [h0, if_true, Option.elim_some]
  refine Ev.ite (fun _ => Ev.bind awake_ev (Ev.now _)) (fun hl => ?_)
  obtain ⟨r, hr, hE⟩ := Ev.loop (F := fun k (s : Int × T23 × T23) => grapevinelaw2_StampRises_l0 l1 k s.1 (ck s.2.1) s.2.2) (fun s n => 0 ≤ s.1 ∧ s.1 + n = l1.length ∧ Mays s.2.1 ∧ ¬ Lt s.2.1 s.2.2) (fun r => ∃ x, r = Sum.inr x) (fun s n hI => by
    obtain ⟨i, c, t⟩ := s
    obtain ⟨hi0, hin, hc, ht⟩ := hI
    simp only at hi0 hin hc ht
    by_cases hi : i < (l1.length : Int)
    · have ei : IntKind.i64.wrap (i + 1) = i + 1 := i64w (by omega)
      obtain ⟨x, hx⟩ : ∃ x, x = l1.getD i.toNat z39 := ⟨_, rfl⟩
      by_cases hs : x.f0 = true
      · by_cases he : (see c ⟨x.f1, x.f2⟩ x.f3).1 = 0
        · obtain ⟨o1, o2, o3⟩ := see_ok hc he
          have o4 : ¬ (see c ⟨x.f1, x.f2⟩ x.f3).2.f0 < x.f3 := by omega
          refine .inr ⟨(i + 1, (see c ⟨x.f1, x.f2⟩ x.f3).2, (see c ⟨x.f1, x.f2⟩ x.f3).2), n - 1, by omega, ⟨by simp only; omega, by simp only; omega, see_may hc _ _, Lt_irr _⟩, fun r H => Ev.step (fun k => rfl) ?_⟩
          simp only [grapevinelaw2_StampRises_l0, ei, ← hx, hi, hi0, and_self, if_true, Last_some, Option.bind_some, hs]
          refine Ev.bind (See_ev hc ⟨x.f1, x.f2⟩ x.f3) ?_
          simp only [he, Last_some, Option.bind_some, Less_some, o1, o2, o4, decide_true, decide_false, not_true_eq_false, if_false, Bool.not_true, Bool.false_eq_true]
          exact H
        · have o1 := see_err he
          refine .inr ⟨(i + 1, c, t), n - 1, by omega, ⟨by simp only; omega, by simp only; omega, hc, ht⟩, fun r H => Ev.step (fun k => rfl) ?_⟩
          simp only [grapevinelaw2_StampRises_l0, ei, ← hx, hi, hi0, and_self, if_true, Last_some, Option.bind_some, hs]
          refine Ev.bind (See_ev hc ⟨x.f1, x.f2⟩ x.f3) ?_
          simp only [he, not_false_eq_true, if_true, Last_some, Option.bind_some, o1, not_true_eq_false, if_false]
          exact H
      · by_cases he : (tick c x.f3).2.1 = 0
        · obtain ⟨o1, o2, o3, o4⟩ := tick_ok hc he
          refine .inr ⟨(i + 1, (tick c x.f3).2.2, (tick c x.f3).2.2), n - 1, by omega, ⟨by simp only; omega, by simp only; omega, tick_may hc _, Lt_irr _⟩, fun r H => Ev.step (fun k => rfl) ?_⟩
          have o5 : Lt t (tick c x.f3).2.2 := by unfold Lt at *; omega
          have o6 : ¬ (tick c x.f3).2.2.f0 < x.f3 := by omega
          simp only [grapevinelaw2_StampRises_l0, ei, ← hx, hi, hi0, and_self, if_true, Last_some, Option.bind_some, hs, Bool.false_eq_true, if_false, Tick_some hc, he, o1, not_true_eq_false, Less_some, May_some, o5, o6, o4, decide_true, Bool.not_true]
          exact H
        · obtain ⟨o1, o2⟩ := tick_err he
          refine .inr ⟨(i + 1, c, t), n - 1, by omega, ⟨by simp only; omega, by simp only; omega, hc, ht⟩, fun r H => Ev.step (fun k => rfl) ?_⟩
          simp only [grapevinelaw2_StampRises_l0, ei, ← hx, hi, hi0, and_self, if_true, Last_some, Option.bind_some, hs, Bool.false_eq_true, if_false, Tick_some hc, he, o1, o2, not_true_eq_false, not_false_eq_true, decide_true, Bool.not_true]
          exact H
    · refine .inl ⟨_, ⟨_, rfl⟩, Ev.step (g := fun _ => some (Sum.inr (t, ck c))) (fun k => ?_) (Ev.now _)⟩
      rw [grapevinelaw2_StampRises_l0, if_neg hi]) (0, a0, a0) l1.length ⟨by simp, by simp, h0, Lt_irr _⟩
  obtain ⟨x, rfl⟩ := hr
  exact Ev.bind hE (Ev.bind awake_ev (Ev.now _))
end Go.Proofs.Ytmphcmgbognmnaa.Pure
