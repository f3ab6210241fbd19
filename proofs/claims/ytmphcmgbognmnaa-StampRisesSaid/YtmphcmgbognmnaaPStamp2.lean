/- What a clock's acts tell. -/
import Derived.Test.YtmphcmgbognmnaaPStamp
namespace Go.Proofs.Ytmphcmgbognmnaa.Pure
open Go Go.Gg Go.Gp Gf
set_option linter.unusedVariables false
theorem see_bad {c s : T23} {n : Int} (h : ¬ (Mays s ∧ Wall n)) : see c s n = (2, c) := if_pos h
theorem see_good {c s : T23} {n : Int} (h : Mays s ∧ Wall n) : see c s n = if s.f0 - n > 1000 then (5, c) else if n > mw c s then (0, ⟨n, 0⟩) else
    if (tops c s).f1 + 1 > 65535 then (4, c) else (0, ⟨(tops c s).f0, (tops c s).f1 + 1⟩) := if_neg (not_not_intro h)
theorem see_err {c s : T23} {n : Int} (h : ¬ (see c s n).1 = 0) : (see c s n).2 = c := by
  by_cases h1 : Mays s ∧ Wall n
  · rw [see_good h1] at h ⊢
    by_cases h2 : s.f0 - n > 1000
    · rw [if_pos h2]
    · rw [if_neg h2] at h ⊢
      by_cases h3 : n > mw c s
      · rw [if_pos h3] at h; exact absurd rfl h
      · rw [if_neg h3] at h ⊢
        by_cases h4 : (tops c s).f1 + 1 > 65535
        · rw [if_pos h4]
        · rw [if_neg h4] at h; exact absurd rfl h
  · rw [see_bad h1]
theorem see_ok {c s : T23} {n : Int} (hc : Mays c) (h : (see c s n).1 = 0) : Lt s (see c s n).2 ∧ Lt c (see c s n).2 ∧ n ≤ (see c s n).2.f0 := by
  by_cases h1 : Mays s ∧ Wall n
  · rw [see_good h1] at h ⊢
    by_cases h2 : s.f0 - n > 1000
    · rw [if_pos h2] at h; cases h
    · rw [if_neg h2] at h ⊢
      by_cases h3 : n > mw c s
      · rw [if_pos h3]
        unfold mw at h3
        unfold Lt
        simp only
        split at h3 <;> omega
      · rw [if_neg h3] at h ⊢
        by_cases h4 : (tops c s).f1 + 1 > 65535
        · rw [if_pos h4] at h; cases h
        · rw [if_neg h4]
          have h5 : mw c s = (tops c s).f0 := by
            unfold mw tops; by_cases hl : Lt s c
            · rw [if_pos hl]; unfold Lt at hl; split <;> omega
            · rw [if_neg hl]; unfold Lt at hl; split <;> omega
          have h6 : ¬ Lt (tops c s) s ∧ ¬ Lt (tops c s) c := by
            unfold tops; by_cases hl : Lt s c
            · rw [if_pos hl]; unfold Lt at *; omega
            · rw [if_neg hl]; unfold Lt at *; omega
          unfold Lt at *
          simp only
          omega
  · rw [see_bad h1] at h; cases h
theorem tick_bad {c : T23} {n : Int} (h : ¬ Wall n) : tick c n = (⟨0, 0⟩, 2, c) := if_pos h
theorem tick_good {c : T23} {n : Int} (h : Wall n) : tick c n = if n > c.f0 then (⟨n, 0⟩, 0, ⟨n, 0⟩) else if c.f1 + 1 > 65535 then (⟨0, 0⟩, 4, c) else (⟨c.f0, c.f1 + 1⟩, 0, ⟨c.f0, c.f1 + 1⟩) := if_neg (not_not_intro h)
theorem tick_err {c : T23} {n : Int} (h : ¬ (tick c n).2.1 = 0) : (tick c n).2.2 = c ∧ (tick c n).1 = ⟨0, 0⟩ := by
  by_cases h1 : Wall n
  · rw [tick_good h1] at h ⊢
    by_cases h2 : n > c.f0
    · rw [if_pos h2] at h; exact absurd rfl h
    · rw [if_neg h2] at h ⊢
      by_cases h3 : c.f1 + 1 > 65535
      · rw [if_pos h3]; exact ⟨rfl, rfl⟩
      · rw [if_neg h3] at h; exact absurd rfl h
  · rw [tick_bad h1]; exact ⟨rfl, rfl⟩
theorem tick_ok {c : T23} {n : Int} (hc : Mays c) (h : (tick c n).2.1 = 0) : (tick c n).1 = (tick c n).2.2 ∧ Lt c (tick c n).2.2 ∧ n ≤ (tick c n).2.2.f0 ∧ Mays (tick c n).2.2 := by
  refine ⟨?_, ?_, ?_, tick_may hc n⟩
  all_goals
    by_cases h1 : Wall n
    · rw [tick_good h1] at h ⊢
      by_cases h2 : n > c.f0
      · simp only [if_pos h2, Lt]; try omega
      · rw [if_neg h2] at h ⊢
        by_cases h3 : c.f1 + 1 > 65535
        · rw [if_pos h3] at h; cases h
        · simp only [if_neg h3, Lt]; try (first | omega | exact .inr ⟨trivial, by omega⟩)
    · rw [tick_bad h1] at h; cases h
end Go.Proofs.Ytmphcmgbognmnaa.Pure
