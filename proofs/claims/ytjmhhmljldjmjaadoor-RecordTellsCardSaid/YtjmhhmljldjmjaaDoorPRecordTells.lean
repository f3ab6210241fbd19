/- The plain law of RecordTells. -/
import Derived.Test.YtjmhhmljldjmjaaDoorLRecordTells
import Derived.Test.YtjmhhmljldjmjaaDoorPRec
import Derived.Test.YtjmhhmljldjmjaaDoorPSort3
namespace Go.Proofs.YtjmhhmljldjmjaaDoor.Pure
open Go Go.Gg Go.Gp Gf
set_option linter.unusedVariables false
set_option linter.unusedSimpArgs false
theorem RecordTells : RecordTells_Pure := by
  intro a b l wa wb wl
  refine Ev.rounds ?_
  unfold grapevinelaw4_RecordTells
  obtain ⟨g1, hg1, _⟩ := Great_ev [a, b] 2 (by omega)
  obtain ⟨g2, hg2, hgl⟩ := Great_ev l 30 (by omega)
  refine Ev.bind (b := if g1 = true then true else g2) (Ev.bind hg1 ?_) ?_
  · by_cases h : g1 = true
    · rw [if_pos h]; exact Ev.pos h (Ev.now _)
    · rw [if_neg h]; exact Ev.neg h (Ev.bind hg2 (Ev.now _))
  refine Ev.ite (fun _ => Ev.bind awake_ev (Ev.now _)) (fun hne => ?_)
  have hl : l.length ≤ 30 := by
    by_cases h : g1 = true
    · exact absurd (by rw [if_pos h]) hne
    · rw [if_neg h] at hne; have := hgl (by simpa using hne); omega
  obtain ⟨t, h1, h2, h3⟩ := Sort_ev l (by omega)
  obtain ⟨u, k1, k2, k3⟩ := rSort_ev l (by omega)
  obtain rfl := Srt.uniq ltr_swo h1 k1 (h2.symm.trans k2)
  have htl := SE.length h2
  have hkept := (KeptRecords_ev l l (by omega)).is (decide_eq_true rfl)
  refine Ev.pos (by omega) (Ev.bind h3 (Ev.bind (b := true) (Ev.bind k3 (Ev.bind ((SameRecords_ev t t (by omega)).is (decide_eq_true rfl)) (Ev.pos rfl (Ev.bind hkept (Ev.pos rfl ?_))))) ?_))
  · simp only [May_some, rMay_some, record_Same, rSame_some, Less_some, rLess_some, before_same, Option.bind_some, BEq.rfl, if_true]
    have : ∃ r, grapevineref4_Before (⟨a.f0, a.f1⟩ : T23) (⟨b.f0, b.f1⟩ : T23) = some r := by
      unfold grapevineref4_Before
      by_cases h1 : a.f0 < b.f0
      · simp [h1]
      · by_cases h2 : a.f0 = b.f0 <;> simp [h1, h2]
    obtain ⟨r, hr⟩ := this
    simp only [hr, Option.bind_some, BEq.rfl]
    exact Ev.now _
  · exact Ev.bind (OverRecords_ev t (by omega)) (Ev.bind (b := true) (Ev.pos rfl (Ev.bind hkept (Ev.pos rfl (Ev.bind awake_ev (Ev.now _))))) (Ev.now _))
end Go.Proofs.YtjmhhmljldjmjaaDoor.Pure
