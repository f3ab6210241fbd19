/- The plain law of DeemTells. -/
import Derived.Test.YtbphlohiealbeaaDoorLDeemTells
import Derived.Test.YtbphlohiealbeaaDoorPDeem3
namespace Go.Proofs.YtbphlohiealbeaaDoor.Pure
open Go Go.Gg Go.Gp Gf
set_option linter.unusedVariables false
theorem DeemTells : DeemTells_Pure := by
  intro a r ws ps ha hr hws hps
  have hrs : r.f4.size ≤ 9223372036854775807 := hr.2.2.2.2
  apply Ev.rounds
  unfold grapevinelaw15_DeemTells
  obtain ⟨g, hg, hgs⟩ := GreatAsk_ev a
  obtain ⟨t, ht, hts⟩ := GreatTexts_ev ps 20 100 (by omega)
  have yes : ∀ {f : Nat → Option Bool}, Ev (fun k => if true = true then ((grapevinelaw15_awake k).bind fun t => some t) else f k) true := fun {f} => Ev.pos rfl (Ev.bind awake_ev (Ev.now _))
  cases g with
  | true => exact Ev.bind (b := true) (Ev.bind hg (Ev.pos rfl (Ev.now _))) yes
  | false =>
    obtain ⟨h1, h2⟩ := hgs rfl
    by_cases c1 : (r.f4.size : Int) > 300
    · exact Ev.bind (b := true) (Ev.bind hg (Ev.neg Bool.false_ne_true (Ev.pos c1 (Ev.now _)))) yes
    by_cases c2 : (ws.length : Int) > 60
    · exact Ev.bind (b := true) (Ev.bind hg (Ev.neg Bool.false_ne_true (Ev.neg c1 (Ev.pos c2 (Ev.now _))))) yes
    cases t with
    | true => exact Ev.bind (b := true) (Ev.bind hg (Ev.neg Bool.false_ne_true (Ev.neg c1 (Ev.neg c2 (Ev.bind ht (Ev.now _)))))) yes
    | false =>
      obtain ⟨h3, h4⟩ := hts rfl
      refine Ev.bind (b := false) (Ev.bind hg (Ev.neg Bool.false_ne_true (Ev.neg c1 (Ev.neg c2 (Ev.bind ht (Ev.now _)))))) ?_
      refine Ev.neg Bool.false_ne_true (Ev.bind (b := true) ?_ (Ev.now _))
      refine Ev.bind (Holds_ev (by decide) h1 (by omega) hrs) ?_
      refine Ev.bind (rHolds_ev (by decide) h1 (by omega) hrs) ?_
      refine Ev.pos (by simp) ?_
      refine Ev.bind (Phrase_ev ws ps (by omega) (by omega)) ?_
      refine Ev.bind (rPhrase_ev ws ps (by omega) (by omega)) ?_
      refine Ev.pos (by simp) ?_
      exact Ev.bind awake_ev (Ev.now _)
end Go.Proofs.YtbphlohiealbeaaDoor.Pure
