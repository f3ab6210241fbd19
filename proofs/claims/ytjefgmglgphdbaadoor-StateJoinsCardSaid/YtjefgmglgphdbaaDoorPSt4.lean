
/- States in plain words: acts of records that are told the same; records compared; raised to where it is. -/
import Derived.Test.YtjefgmglgphdbaaDoorF1
import Derived.Test.YtjefgmglgphdbaaDoorPSt3
namespace Go.Proofs.YtjefgmglgphdbaaDoor.Pure
open Go Go.Gg Go.Gp Gf
set_option linter.unusedVariables false
set_option linter.unusedSimpArgs false
theorem play_good {n : Nat} {s : T63} (h : Good n s) (h1 : 1 ≤ n) (hn : n ≤ 8) (x : T36) : ∃ s', Ev (fun k => grapevinelaw19_play k s x) s' ∧ Good n s' := by
  unfold grapevinelaw19_play
  by_cases c0 : x.f0 = 0
  · obtain ⟨c, s', hA, hs', _⟩ := Accept_good h hn (r := rk x.f3 x.f4) (rk_size _ _)
    refine ⟨s', Ev.pos c0 ?_, hs'⟩
    rw [rec_eq]
    refine Ev.name fun t ht => ?_
    subst ht
    rw [hA]
    exact Ev.now _
  by_cases c1 : x.f0 = 1
  · obtain ⟨c, s', hA, hs', _⟩ := Retire_good h h1 hn x.f1 x.f2
    exact ⟨s', Ev.neg c0 (Ev.pos c1 (Ev.bind hA (Ev.now _))), hs'⟩
  by_cases c2 : x.f0 = 2
  · obtain ⟨c, s', hA, hs', _⟩ := Raise_good h h1 hn x.f8
    exact ⟨s', Ev.neg c0 (Ev.neg c1 (Ev.pos c2 (Ev.bind hA (Ev.now _)))), hs'⟩
  · exact ⟨s, Ev.neg c0 (Ev.neg c1 (Ev.neg c2 (Ev.now _))), h⟩
theorem raise_self {n : Nat} {s : T63} (h : Good n s) : raiseS s s.f1 = s := by
  have e1 : zip mx s.f1 s.f1 = s.f1 := zip_self h.w.1
  have e0 : zip mx s.f0 s.f1 = s.f0 := vec_ext (len_zip h.v.1 h.w.1) h.v.1 fun i hi => by
    rw [getD_zip h.v.1 h.w.1 hi]
    have := h.le i hi
    unfold mx; split <;> omega
  have e2 : fcut s.f1 s.f2 = s.f2 := by
    funext k
    unfold fcut
    split
    · rename_i c
      cases e : s.f2 k with
      | none => rfl
      | some r => have := (h.mem k r e).1.2.1; omega
    · rfl
  unfold raiseS
  rw [e1, e0, e2]
end Go.Proofs.YtjefgmglgphdbaaDoor.Pure
