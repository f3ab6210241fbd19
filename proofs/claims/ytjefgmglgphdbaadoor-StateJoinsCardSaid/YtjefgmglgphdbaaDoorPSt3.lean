/- States in plain words: each act leaves a state that is whole, and nothing sinks. -/
import Derived.Test.YtjefgmglgphdbaaDoorPSt2
namespace Go.Proofs.YtjefgmglgphdbaaDoor.Pure
open Go Go.Gg Go.Gp Gf
set_option linter.unusedVariables false
set_option linter.unusedSimpArgs false
theorem Le.refl (n : Nat) (a : List Int) : Le n a a := fun i hi => Int.le_refl _
theorem raise_le {n : Nat} {s : T63} (h : Good n s) {x : List Int} (hx : Vec n x) : Le n s.f0 (raiseS s x).f0 ∧ Le n s.f1 (raiseS s x).f1 := by
  refine ⟨fun i hi => ?_, fun i hi => ?_⟩
  · show _ ≤ (zip mx s.f0 (zip mx s.f1 x)).getD i 0
    rw [getD_zip h.v.1 (Vec.join h.w hx).1 hi]; exact (mx_le _ _).1
  · show _ ≤ (zip mx s.f1 x).getD i 0
    rw [getD_zip h.w.1 hx.1 hi]; exact (mx_le _ _).1
theorem accept_le {n : Nat} {s : T63} (h : Good n s) {r : T34} (ho : 0 ≤ r.f0 ∧ r.f0 < n) (hq : r.f1 = at0 s.f0 r.f0 + 1) : Le n s.f0 (acceptS s r).f0 := fun i hi => by
  have := at0_set (v := s.f0) h.v.1 (i := r.f0) (o := (i : Int)) (q := r.f1) ho (by omega)
  have e : ∀ l : List Int, at0 l (i : Int) = l.getD i 0 := fun l => by unfold at0; rw [Int.toNat_natCast]
  rw [e, e] at this
  show _ ≤ (s.f0.set r.f0.toNat r.f1).getD i 0
  rw [this]
  split
  · rename_i e'; rw [← e'] at hq; rw [e] at hq; omega
  · exact Int.le_refl _
theorem Accept_good {n : Nat} {s : T63} (h : Good n s) (hn : n ≤ 8) {r : T34} (hr : r.f4.size ≤ 9223372036854775807) :
    ∃ c s', state_State_Accept s r = some (c, s') ∧ Good n s' ∧ Le n s.f0 s'.f0 ∧ Le n s.f1 s'.f1 := by
  rw [Accept_eq h hr]
  by_cases c : recB r = false ∨ r.f0 ≥ n
  · rw [if_pos c]; exact ⟨_, _, rfl, h, Le.refl _ _, Le.refl _ _⟩
  rw [if_neg c]
  simp only [not_or, Bool.not_eq_false] at c
  obtain ⟨hb, hc⟩ := c
  obtain ⟨⟨h0, h8⟩, h1, h2⟩ := recB_in hb
  by_cases c1 : r.f1 ≤ at0 s.f0 r.f0
  · rw [if_pos c1]; exact ⟨_, _, rfl, h, Le.refl _ _, Le.refl _ _⟩
  rw [if_neg c1]
  by_cases c2 : r.f1 > at0 s.f0 r.f0 + 1
  · rw [if_pos c2]; exact ⟨_, _, rfl, h, Le.refl _ _, Le.refl _ _⟩
  rw [if_neg c2]
  exact ⟨_, _, rfl, h.accept ⟨h0, by omega⟩ (by omega) h2, accept_le h ⟨h0, by omega⟩ (by omega), Le.refl _ _⟩
theorem Raise_good {n : Nat} {s : T63} (h : Good n s) (h1 : 1 ≤ n) (hn : n ≤ 8) (x : List Int) :
    ∃ c s', Ev (fun k => state_State_Raise k s x) (c, s') ∧ Good n s' ∧ Le n s.f0 s'.f0 ∧ Le n s.f1 s'.f1 := by
  by_cases hx : Vec n x
  · exact ⟨_, _, Raise_ev h h1 hn hx, h.raise hx, raise_le h hx⟩
  · exact ⟨_, _, Raise_no h h1 hn hx, h, Le.refl _ _, Le.refl _ _⟩
theorem Retire_good {n : Nat} {s : T63} (h : Good n s) (h1 : 1 ≤ n) (hn : n ≤ 8) (o u : Int) :
    ∃ c s', Ev (fun k => state_State_Retire k s o u) (c, s') ∧ Good n s' ∧ Le n s.f0 s'.f0 ∧ Le n s.f1 s'.f1 := by
  have := Retire_ev h h1 hn o u
  by_cases c : (0 ≤ o ∧ o < n) ∧ 0 ≤ u ∧ u ≤ 1023
  · rw [if_pos c] at this
    exact ⟨_, _, this, h.raise (rtW_vec h c.1 c.2), raise_le h (rtW_vec h c.1 c.2)⟩
  · rw [if_neg c] at this
    exact ⟨_, _, this, h, Le.refl _ _, Le.refl _ _⟩
end Go.Proofs.YtjefgmglgphdbaaDoor.Pure
