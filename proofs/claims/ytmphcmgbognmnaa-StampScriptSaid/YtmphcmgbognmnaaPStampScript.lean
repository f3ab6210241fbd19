/- The plain law of StampScript. -/
import Derived.Test.YtmphcmgbognmnaaLStampScript
import Derived.Test.YtmphcmgbognmnaaPStamp
namespace Go.Proofs.Ytmphcmgbognmnaa.Pure
open Go Go.Gg Go.Gp Gf
set_option linter.unusedVariables false
set_option linter.unusedSimpArgs false
def rk (s : T23) : T36 := ⟨s.f0, s.f1⟩
theorem rTick_some {c : T23} (hc : Mays c) (n : Int) : grapevineref2_Clock_Tick (rk c) n = some ((tick c n).1, (tick c n).2.1, rk (tick c n).2.2) := by
  unfold Mays Wall at hc
  have e : IntKind.i64.wrap (c.f1 + 1) = c.f1 + 1 := i64w (by omega)
  unfold grapevineref2_Clock_Tick tick rk
  simp only [in_some, e, Option.bind_some]
  by_cases h : Wall n
  · have h' := h
    unfold Wall at h'
    by_cases h1 : n > c.f0
    · simp [h, h', h1]
    · by_cases h2 : c.f1 + 1 > 65535
      · have h3 : c.f1 ≥ 65535 := by omega
        simp [h, h', h1, h2, h3]
      · have h3 : ¬ c.f1 ≥ 65535 := by omega
        simp [h, h', h1, h2, h3]
  · have h' : ¬ (0 ≤ n ∧ n ≤ 1099511627776) := h
    simp [h, h']
theorem rSee_some {c : T23} (hc : Mays c) (s : T23) (n : Int) : grapevineref2_Clock_See (rk c) s n = some ((see c s n).1, rk (see c s n).2) := by
  unfold grapevineref2_Clock_See
  simp only [rMay_some, in_some, Option.bind_some]
  by_cases h1 : Mays s
  · by_cases h2 : Wall n
    · have h1' := h1; have h2' := h2
      unfold Mays Wall at hc h1'
      unfold Wall at h2'
      have ew : IntKind.i64.wrap (s.f0 - n) = s.f0 - n := i64w (by omega)
      have ea : IntKind.i64.wrap (c.f1 + 1) = c.f1 + 1 := i64w (by omega)
      have eb : IntKind.i64.wrap (s.f1 + 1) = s.f1 + 1 := i64w (by omega)
      have s0 : see c s n = if s.f0 - n > 1000 then (5, c) else if n > mw c s then (0, ⟨n, 0⟩) else
          if (tops c s).f1 + 1 > 65535 then (4, c) else (0, ⟨(tops c s).f0, (tops c s).f1 + 1⟩) := by
        unfold see; exact if_neg (not_not_intro ⟨h1, h2⟩)
      simp only [h1, h2', decide_true, and_self, Bool.not_true, Bool.false_eq_true, if_false, Option.bind_some, ew]
      by_cases h3 : s.f0 - n > 1000
      · rw [if_pos h3] at s0 ⊢; rw [s0]
      · rw [if_neg h3] at s0 ⊢
        obtain ⟨v, hv⟩ : ∃ v, v = (if (rk c).f0 > (if s.f0 > n then s.f0 else n) then (rk c).f0 else (if s.f0 > n then s.f0 else n)) := ⟨_, rfl⟩
        rw [← hv]
        have e1 : (if s.f1 > -1 then s.f1 else -1) = s.f1 := if_pos (by omega)
        have e2 : (if (rk c).f1 > -1 then (rk c).f1 else -1) = c.f1 := if_pos (show c.f1 > -1 by omega)
        simp only [e1, e2]
        have er0 : (rk c).f0 = c.f0 := rfl
        have er1 : (rk c).f1 = c.f1 := rfl
        rw [er0] at hv ⊢
        rw [er1]
        by_cases h4 : n > mw c s
        · rw [if_pos h4] at s0
          rw [s0]
          unfold mw at h4
          have hvn : v = n := by rw [hv]; split at h4 <;> (repeat' split) <;> omega
          have n1 : ¬ s.f0 = v := by rw [hvn]; split at h4 <;> omega
          have n2 : ¬ c.f0 = v := by rw [hvn]; split at h4 <;> omega
          rw [if_neg n1, if_neg n2, hvn]; rfl
        · rw [if_neg h4] at s0
          rw [s0]
          unfold mw at h4
          have hvm : v = if c.f0 > s.f0 then c.f0 else s.f0 := by rw [hv]; (repeat' split) <;> (repeat' split at h4) <;> omega
          by_cases h5 : s.f0 = v
          · rw [if_pos h5]
            by_cases h6 : c.f0 = v
            · rw [if_pos h6]
              by_cases h7 : c.f1 > s.f1
              · have ht : tops c s = c := if_pos (by unfold Lt; omega)
                rw [ht, if_pos h7, ea, h6]
                by_cases h8 : c.f1 + 1 > 65535
                · simp [h8, rk]
                · simp [h8, rk]
              · have ht : tops c s = s := if_neg (by unfold Lt; omega)
                rw [ht, if_neg h7, eb, h5]
                by_cases h8 : s.f1 + 1 > 65535
                · simp [h8, rk]
                · simp [h8, rk]
            · rw [if_neg h6, eb]
              have ht : tops c s = s := if_neg (by unfold Lt; split at hvm <;> omega)
              rw [ht, h5]
              by_cases h8 : s.f1 + 1 > 65535
              · simp [h8, rk]
              · simp [h8, rk]
          · rw [if_neg h5]
            have h6 : c.f0 = v := by split at hvm <;> omega
            have ht : tops c s = c := if_pos (by unfold Lt; split at hvm <;> omega)
            rw [if_pos h6, ea, ht, h6]
            by_cases h8 : c.f1 + 1 > 65535
            · simp [h8, rk]
            · simp [h8, rk]
    · have h2' : ¬ (0 ≤ n ∧ n ≤ 1099511627776) := h2
      have s0 : see c s n = (2, c) := by unfold see; exact if_pos fun h => h2 h.2
      rw [s0]
      simp [h1, h2']
  · have s0 : see c s n = (2, c) := by unfold see; exact if_pos fun h => h1 h.1
    rw [s0]
    simp [h1]
theorem StampScript : StampScript_Pure := by
  intro a0 l1 w0 w1
  refine Ev.rounds ?_
  unfold grapevinelaw2_StampScript
  simp only [rMay_some, New_some, Option.bind_some]
  by_cases hl : (l1.length : Int) > 60
  · rw [if_pos hl]
    exact Ev.bind (b := true) (Ev.now _) (Ev.pos rfl (Ev.bind awake_ev (Ev.now _)))
  rw [if_neg hl]
  by_cases h0 : Mays a0
  case neg =>
    simp only [h0, decide_false, Bool.not_false, Option.bind_some]
    exact Ev.pos (by simp) (Ev.bind awake_ev (Ev.now _))
  simp only [h0, decide_true, Bool.not_true, Option.bind_some, if_true, Option.elim_some, Last_some]
  refine Ev.neg (by simp) (Ev.neg (by simp) ?_)
  obtain ⟨r, hr, hE⟩ := Ev.loop (F := fun k (s : Int × T23) => grapevinelaw2_StampScript_l0 l1 k s.1 (ck s.2) (rk s.2)) (fun s n => 0 ≤ s.1 ∧ s.1 + n = l1.length ∧ Mays s.2) (fun r => ∃ x, r = Sum.inr x) (fun s n hI => by
    obtain ⟨i, c⟩ := s
    obtain ⟨hi0, hin, hc⟩ := hI
    simp only at hi0 hin hc
    by_cases hi : i < (l1.length : Int)
    · refine .inr ⟨(i + 1, if (l1.getD i.toNat z39).f0 = true then (see c ⟨(l1.getD i.toNat z39).f1, (l1.getD i.toNat z39).f2⟩ (l1.getD i.toNat z39).f3).2 else (tick c (l1.getD i.toNat z39).f3).2.2), n - 1, by omega, ⟨by simp only; omega, by simp only; omega, by
        simp only
        split
        · exact see_may hc _ _
        · exact tick_may hc _⟩, fun r H => ?_⟩
      have ei : IntKind.i64.wrap (i + 1) = i + 1 := i64w (by omega)
      by_cases hs : (l1.getD i.toNat z39).f0 = true
      · simp only [if_pos hs] at H
        refine Ev.step (fun k => ?_) (Ev.bind (g := fun k (t35 : Int × T81) => if ¬ t35.1 = (see c ⟨(l1.getD i.toNat z39).f1, (l1.getD i.toNat z39).f2⟩ (l1.getD i.toNat z39).f3).1 then some (Sum.inl false) else (stamp_Clock_Last t35.2).bind fun t48 => if ¬ t48 = (see c ⟨(l1.getD i.toNat z39).f1, (l1.getD i.toNat z39).f2⟩ (l1.getD i.toNat z39).f3).2 then some (Sum.inl false) else grapevinelaw2_StampScript_l0 l1 k (i + 1) t35.2 (rk (see c ⟨(l1.getD i.toNat z39).f1, (l1.getD i.toNat z39).f2⟩ (l1.getD i.toNat z39).f3).2)) (See_ev hc ⟨(l1.getD i.toNat z39).f1, (l1.getD i.toNat z39).f2⟩ (l1.getD i.toNat z39).f3) ?_)
        · simp only
          rw [grapevinelaw2_StampScript_l0, if_pos hi, if_pos ⟨hi0, hi⟩, if_pos hs, ei, rSee_some hc]
          simp only [grapevinelaw0_Num, Option.bind_some]
          rfl
        · refine Ev.neg (by simp) ?_
          simp only [Last_some, Option.bind_some]
          exact Ev.neg (by simp) H
      · simp only [if_neg hs] at H
        refine Ev.step (fun k => ?_) H
        simp only
        rw [grapevinelaw2_StampScript_l0, if_pos hi, if_pos ⟨hi0, hi⟩, if_neg hs, ei, Tick_some hc, rTick_some hc]
        simp only [grapevinelaw0_Num, Option.bind_some, Last_some]
        have e1 : (⟨(rk (tick c (l1.getD i.toNat z39).f3).2.2).f0, (rk (tick c (l1.getD i.toNat z39).f3).2.2).f1⟩ : T23) = (tick c (l1.getD i.toNat z39).f3).2.2 := rfl
        rw [e1]
        simp
    · refine .inl ⟨_, ⟨_, rfl⟩, Ev.step (g := fun _ => some (Sum.inr (ck c, rk c))) (fun k => ?_) (Ev.now _)⟩
      rw [grapevinelaw2_StampScript_l0, if_neg hi]) (0, a0) l1.length ⟨by simp, by simp, h0⟩
  obtain ⟨x, rfl⟩ := hr
  exact Ev.bind hE (Ev.bind awake_ev (Ev.now _))
end Go.Proofs.Ytmphcmgbognmnaa.Pure
