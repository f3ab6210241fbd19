/- The plain law of StateWhole. -/
import Derived.Test.YtjefgmglgphdbaaDoorLStateWhole
import Derived.Test.YtjefgmglgphdbaaDoorPSt3
namespace Go.Proofs.YtjefgmglgphdbaaDoor.Pure
open Go Go.Gg Go.Gp Gf
set_option linter.unusedVariables false
set_option linter.unusedSimpArgs false
theorem chk {n : Nat} {s s' : T63} (h : Good n s) (h' : Good n s') (hn : n ≤ 8) (l0 : Le n s.f0 s'.f0) (l1 : Le n s.f1 s'.f1) :
    Ev (fun k => (state_State_V s').bind fun t44 => (grapevineref3_Below k s.f0 t44).bind fun t48 => if (!t48) = true then some true else (state_State_W s').bind fun t55 => (grapevineref3_Below k s.f1 t55).bind fun t59 => if (!t59) = true then some true else (grapevinelaw19_whole k s').bind fun t66 => some (!t66)) false := by
  rw [V_eq h' hn, W_eq h' hn]
  refine Ev.name fun t ht => ?_
  subst ht
  refine Ev.bind (Below_ev h.v.1 h'.v.1 hn) (Ev.neg (by simp [l0]) ?_)
  refine Ev.name fun t ht => ?_
  subst ht
  refine Ev.bind (Below_ev h.w.1 h'.w.1 hn) (Ev.neg (by simp [l1]) ?_)
  exact Ev.bind (whole_ev h' hn) (Ev.now _)
theorem StateWhole : StateWhole_Pure := by
  intro a l ha hl
  apply Ev.rounds
  unfold grapevinelaw19_StateWhole
  by_cases ha : 1 ≤ a ∧ a ≤ 8
  case neg =>
    rw [New_none ha]
    refine Ev.name fun t ht => ?_
    subst ht
    simp only [Option.elim_none]
    exact Ev.bind awake_ev (Ev.now _)
  obtain ⟨n, rfl⟩ : ∃ n : Nat, a = n := ⟨a.toNat, by omega⟩
  have h1 : 1 ≤ n := by omega
  have hn : n ≤ 8 := by omega
  rw [New_some h1 hn]
  refine Ev.name fun t ht => ?_
  subst ht
  simp only [Option.elim_some]
  obtain ⟨g, hg, hgs⟩ := great_ev l (m := 50) (by omega)
  refine Ev.bind hg ?_
  cases g with
  | true => exact Ev.pos rfl (Ev.bind awake_ev (Ev.now _))
  | false =>
    refine Ev.neg Bool.false_ne_true ?_
    obtain ⟨hlen, hall⟩ := hgs rfl
    obtain ⟨r, ⟨s, rfl, hs⟩, hE⟩ := Ev.loop (F := fun k (s : Int × T63) => grapevinelaw19_StateWhole_l0 l k s.1 s.2) (fun s m => 0 ≤ s.1 ∧ s.1 + m = l.length ∧ Good n s.2) (fun r => ∃ s', r = Sum.inr s' ∧ Good n s') (fun s m ⟨h0, hm, hs⟩ => by
      obtain ⟨i, s⟩ := s
      simp only at h0 hm hs ⊢
      by_cases hi : i < (l.length : Int)
      case neg =>
        refine .inl ⟨_, ⟨s, rfl, hs⟩, ?_⟩
        refine Ev.step (fun k => by rw [grapevinelaw19_StateWhole_l0]) ?_
        exact Ev.neg hi (Ev.now _)
      obtain ⟨b1, b2⟩ := hall i.toNat (by omega)
      obtain ⟨x, hx⟩ : ∃ x, x = l.getD i.toNat z36 := ⟨_, rfl⟩
      rw [← hx] at b1 b2
      by_cases c0 : x.f0 = 0
      · obtain ⟨c, s', hA, hs', l0, l1⟩ := Accept_good hs hn (r := ⟨x.f3, x.f4, x.f5, x.f6, x.f7⟩) (by simp only; omega)
        refine .inr ⟨(i + 1, s'), m - 1, by omega, ⟨by simp only; omega, by simp only; omega, hs'⟩, fun r H => ?_⟩
        refine Ev.step (fun k => by rw [grapevinelaw19_StateWhole_l0]) ?_
        rw [← hx, V_eq hs hn, W_eq hs hn]
        refine Ev.pos hi ?_
        refine Ev.name fun t ht => ?_
        subst ht
        refine Ev.name fun t ht => ?_
        subst ht
        refine Ev.pos (by omega) (Ev.pos c0 (Ev.pos (by omega) ?_))
        rw [hA]
        refine Ev.name fun t ht => ?_
        subst ht
        refine Ev.bind (chk hs hs' hn l0 l1) (Ev.neg Bool.false_ne_true ?_)
        rw [i64w (by omega)]; exact H
      by_cases c1 : x.f0 = 1
      · obtain ⟨c, s', hA, hs', l0, l1⟩ := Retire_good hs h1 hn x.f1 x.f2
        refine .inr ⟨(i + 1, s'), m - 1, by omega, ⟨by simp only; omega, by simp only; omega, hs'⟩, fun r H => ?_⟩
        refine Ev.step (fun k => by rw [grapevinelaw19_StateWhole_l0]) ?_
        rw [← hx, V_eq hs hn, W_eq hs hn]
        refine Ev.pos hi ?_
        refine Ev.name fun t ht => ?_
        subst ht
        refine Ev.name fun t ht => ?_
        subst ht
        refine Ev.pos (by omega) (Ev.neg c0 (Ev.pos c1 (Ev.pos (by omega) (Ev.pos (by omega) ?_))))
        refine Ev.bind hA ?_
        refine Ev.bind (chk hs hs' hn l0 l1) (Ev.neg Bool.false_ne_true ?_)
        rw [i64w (by omega)]; exact H
      · obtain ⟨c, s', hA, hs', l0, l1⟩ := Raise_good hs h1 hn x.f8
        refine .inr ⟨(i + 1, s'), m - 1, by omega, ⟨by simp only; omega, by simp only; omega, hs'⟩, fun r H => ?_⟩
        refine Ev.step (fun k => by rw [grapevinelaw19_StateWhole_l0]) ?_
        rw [← hx, V_eq hs hn, W_eq hs hn]
        refine Ev.pos hi ?_
        refine Ev.name fun t ht => ?_
        subst ht
        refine Ev.name fun t ht => ?_
        subst ht
        refine Ev.pos (by omega) (Ev.neg c0 (Ev.neg c1 (Ev.pos (by omega) ?_)))
        refine Ev.bind hA ?_
        refine Ev.bind (chk hs hs' hn l0 l1) (Ev.neg Bool.false_ne_true ?_)
        rw [i64w (by omega)]; exact H) (0, newS n) l.length ⟨by simp, by simp, Good.new n⟩
    refine Ev.bind hE ?_
    refine Ev.bind (b := true) ?_ (Ev.now _)
    exact Ev.bind (whole_ev hs hn) (Ev.pos rfl (Ev.bind awake_ev (Ev.now _)))
end Go.Proofs.YtjefgmglgphdbaaDoor.Pure
