/- The plain law of StampTwo. -/
import Derived.Test.YtmphcmgbognmnaaLStampTwo
import Derived.Test.YtmphcmgbognmnaaPStamp2
namespace Go.Proofs.Ytmphcmgbognmnaa.Pure
open Go Go.Gg Go.Gp Gf
set_option linter.unusedVariables false
set_option linter.unusedSimpArgs false
theorem low1000 (a : Int) : ∃ r, grapevinelaw0_Low a 1000 = some r ∧ 0 ≤ r ∧ r < 1000 := by
  unfold grapevinelaw0_Low
  have e1 : IntKind.u64.wrap 1000 = 1000 := u64w (by omega)
  have h0 : 0 ≤ IntKind.u64.wrap a ∧ IntKind.u64.wrap a < 18446744073709551616 := by rw [IntKind.wrap_u64]; omega
  rw [e1, if_pos (by omega)]
  have h1 : 0 ≤ Int.tmod (IntKind.u64.wrap a) 1000 := Int.tmod_nonneg _ h0.1
  have h2 : Int.tmod (IntKind.u64.wrap a) 1000 < 1000 := Int.tmod_lt_of_pos _ (by omega)
  exact ⟨_, rfl, by rw [i64w (by omega)]; exact ⟨h1, h2⟩⟩
/-- a clock of the law's, behind so many turns -/
def Ok (i : Nat) (c : T23) : Prop := 0 ≤ c.f0 ∧ c.f0 < 1000 ∧ 0 ≤ c.f1 ∧ c.f1 ≤ 2 * i
theorem Ok.may {i : Nat} {c : T23} (h : Ok i c) (hi : i ≤ 100) : Mays c := by unfold Ok at h; unfold Mays Wall; omega
theorem turn_tick {i : Nat} {c : T23} {n : Int} (h : Ok i c) (hi : i ≤ 100) (hn : 0 ≤ n ∧ n < 1000) : (tick c n).2.1 = 0 ∧ 0 ≤ (tick c n).2.2.f0 ∧ (tick c n).2.2.f0 < 1000 ∧ 0 ≤ (tick c n).2.2.f1 ∧ (tick c n).2.2.f1 ≤ 2 * i + 1 := by
  unfold Ok at h
  rw [tick_good (by unfold Wall; omega)]
  by_cases h2 : n > c.f0
  · rw [if_pos h2]; refine ⟨rfl, ?_, ?_, ?_, ?_⟩ <;> simp only <;> omega
  · rw [if_neg h2, if_neg (by omega)]; refine ⟨rfl, ?_, ?_, ?_, ?_⟩ <;> simp only <;> omega
theorem turn_see {i : Nat} {c s : T23} {n : Int} (h : Ok i c) (hi : i ≤ 100) (hs : 0 ≤ s.f0 ∧ s.f0 < 1000 ∧ 0 ≤ s.f1 ∧ s.f1 ≤ 2 * i + 1) (hn : 0 ≤ n ∧ n < 1000) : (see c s n).1 = 0 ∧ Ok (i + 1) (see c s n).2 := by
  unfold Ok at h ⊢
  rw [see_good ⟨by unfold Mays Wall; omega, by unfold Wall; omega⟩, if_neg (by omega)]
  by_cases h3 : n > mw c s
  · rw [if_pos h3]; refine ⟨rfl, ?_, ?_, ?_, ?_⟩ <;> simp only <;> omega
  · rw [if_neg h3]
    have ht : 0 ≤ (tops c s).f0 ∧ (tops c s).f0 < 1000 ∧ 0 ≤ (tops c s).f1 ∧ (tops c s).f1 ≤ 2 * i + 1 := by unfold tops; split <;> omega
    rw [if_neg (by omega)]; refine ⟨rfl, ?_, ?_, ?_, ?_⟩ <;> simp only <;> omega
theorem StampTwo : StampTwo_Pure := by
  intro l0 a1 w0 w1
  refine Ev.rounds ?_
  unfold grapevinelaw2_StampTwo
  refine Ev.ite (fun _ => Ev.bind awake_ev (Ev.now _)) (fun hl => ?_)
  have hz : Mays ⟨0, 0⟩ := by unfold Mays Wall; simp
  simp only [New_some, Option.bind_some, hz, if_true, Option.elim_some]
  obtain ⟨r, hr, hE⟩ := Ev.loop (F := fun k (s : Nat × T23 × T23 × T23) => grapevinelaw2_StampTwo_l0 l0 a1 k (s.1 : Int) s.2.1 (ck s.2.2.1) (ck s.2.2.2)) (fun s n => s.1 + n = l0.length ∧ Ok s.1 s.2.2.1 ∧ Ok s.1 s.2.2.2 ∧ ¬ Lt s.2.2.1 s.2.1 ∧ ¬ Lt s.2.2.2 s.2.1) (fun r => ∃ x, r = Sum.inr x) (fun s n hI => by
    obtain ⟨i, t, c, d⟩ := s
    obtain ⟨hin, hc, hd, htc, htd⟩ := hI
    simp only at hin hc hd htc htd
    by_cases hi : i < l0.length
    · have hi' : (i : Int) < (l0.length : Int) := by omega
      have hi0 : (0 : Int) ≤ (i : Int) := by omega
      have hm : 0 ≤ Int.tmod (i : Int) 60 := Int.tmod_nonneg _ hi0
      obtain ⟨u, eu, hu⟩ := low1000 (l0.getD i 0)
      obtain ⟨v, ev, hv⟩ := low1000 (IntKind.i64.wrap (Int.tdiv (l0.getD i 0) 2))
      have hcm := hc.may (by omega); have hdm := hd.may (by omega)
      by_cases hw : Go.bits .and .i64 (shrK .i64 a1 (Int.tmod (i : Int) 60)) 1 = 1
      · obtain ⟨p1, p2⟩ := turn_tick hc (by omega) hu
        obtain ⟨q1, q2⟩ := turn_see hd (by omega) p2 hv
        obtain ⟨o1, o2, o3, o4⟩ := tick_ok hcm p1
        obtain ⟨o5, o6, o7⟩ := see_ok hdm q1
        have o8 : Lt t (tick c u).2.2 := by unfold Lt at *; omega
        refine .inr ⟨(i + 1, (tick c u).2.2, (tick c u).2.2, (see d (tick c u).2.2 v).2), n - 1, by omega, ⟨by simp only; omega, ⟨p2.1, p2.2.1, p2.2.2.1, by have := p2.2.2.2; simp only; omega⟩, q2, Lt_irr _, by unfold Lt at *; simp only; omega⟩, fun r H => Ev.step (fun k => rfl) ?_⟩
        simp only [grapevinelaw2_StampTwo_l0, hi', hi0, hm, hw, and_self, if_true, Int.toNat_natCast, step64 i (by omega), eu, ev, Option.bind_some, Tick_some hcm, p1, not_true_eq_false, if_false, Less_some, o1, o8, decide_true, Bool.not_true, Bool.false_eq_true]
        refine Ev.bind (b := (false, ck (see d (tick c u).2.2 v).2)) (Ev.bind (See_ev hdm _ _) ?_) (Ev.neg (by simp) H)
        simp only [q1, not_true_eq_false, if_false, Last_some, Option.bind_some, Less_some, o5, decide_true, Bool.not_true]
        exact Ev.now _
      · obtain ⟨p1, p2⟩ := turn_tick hd (by omega) hu
        obtain ⟨q1, q2⟩ := turn_see hc (by omega) p2 hv
        obtain ⟨o1, o2, o3, o4⟩ := tick_ok hdm p1
        obtain ⟨o5, o6, o7⟩ := see_ok hcm q1
        have o8 : Lt t (tick d u).2.2 := by unfold Lt at *; omega
        refine .inr ⟨(i + 1, (tick d u).2.2, (see c (tick d u).2.2 v).2, (tick d u).2.2), n - 1, by omega, ⟨by simp only; omega, q2, ⟨p2.1, p2.2.1, p2.2.2.1, by have := p2.2.2.2; simp only; omega⟩, by unfold Lt at *; simp only; omega, Lt_irr _⟩, fun r H => Ev.step (fun k => rfl) ?_⟩
        simp only [grapevinelaw2_StampTwo_l0, hi', hi0, hm, hw, and_self, if_true, Int.toNat_natCast, step64 i (by omega), eu, ev, Option.bind_some, Tick_some hdm, p1, not_true_eq_false, if_false, Less_some, o1, o8, decide_true, Bool.not_true, Bool.false_eq_true]
        refine Ev.bind (b := (false, ck (see c (tick d u).2.2 v).2)) (Ev.bind (See_ev hcm _ _) ?_) (Ev.neg (by simp) H)
        simp only [q1, not_true_eq_false, if_false, Last_some, Option.bind_some, Less_some, o5, decide_true, Bool.not_true]
        exact Ev.now _
    · refine .inl ⟨_, ⟨_, rfl⟩, Ev.step (g := fun _ => some (Sum.inr (t, ck c, ck d))) (fun k => ?_) (Ev.now _)⟩
      rw [grapevinelaw2_StampTwo_l0, if_neg (by simp only; omega)]) (0, ⟨0, 0⟩, ⟨0, 0⟩, ⟨0, 0⟩) l0.length ⟨by simp, by simp [Ok], by simp [Ok], Lt_irr _, Lt_irr _⟩
  obtain ⟨x, rfl⟩ := hr
  exact Ev.bind hE (Ev.bind awake_ev (Ev.now _))
end Go.Proofs.Ytmphcmgbognmnaa.Pure
