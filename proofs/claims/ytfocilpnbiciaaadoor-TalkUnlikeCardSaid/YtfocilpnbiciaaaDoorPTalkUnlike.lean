/- TalkUnlike: unlike messages have unlike bytes; for more nodes it is none. -/
import Derived.Test.YtfocilpnbiciaaaDoorPTalk5
import Derived.Test.YtfocilpnbiciaaaDoorLTalkUnlike
namespace Go.Proofs.YtfocilpnbiciaaaDoor.Pure
open Go Go.Gg Go.Gp Gf
set_option linter.unusedVariables false
set_option linter.unusedSimpArgs false

theorem TalkUnlike : TalkUnlike_Pure := by
  intro a b t0 ha hb hn
  refine Ev.rounds (f := fun k => grapevinelaw20_TalkUnlike k a b t0) ?_
  unfold grapevinelaw20_TalkUnlike
  obtain ⟨ga, hga, fa⟩ := great_ev a
  obtain ⟨gb, hgb, fb⟩ := great_ev b
  refine Ev.bind (b := (ga || gb)) (Ev.bind hga ?_) ?_
  · cases ga with
    | true => exact Ev.pos rfl (Ev.now _)
    | false => exact Ev.neg (by simp) (Ev.bind hgb ((Ev.now _).is (by simp)))
  refine Ev.ite (fun h => Ev.bind awake20_ev (Ev.now _)) (fun h => ?_)
  have hg : ga = false ∧ gb = false := by simpa using h
  have sa := fa hg.1
  have hsa : SmallT a := ⟨by omega, by omega, by omega⟩
  obtain ⟨t, ht, h0, h8⟩ := low_some (a := t0) (b := 8) (by omega)
  simp only [ht, Option.bind_some]
  obtain ⟨n, hn1⟩ : ∃ n : Int, n = 1 + t := ⟨_, rfl⟩
  have e1 : IntKind.i64.wrap (1 + t) = n := by rw [i64w (by omega), hn1]
  have e2 : IntKind.i64.wrap (n + 1) = n + 1 := i64w (by omega)
  simp only [e1, e2]
  refine Ev.bind (tLay_ev a n) (Ev.bind (tLay_ev b n) (Ev.bind (tLay_ev a (n + 1)) ?_))
  by_cases ma : MayT a n
  case neg =>
    have la : laidT a n = ([], 2) := if_neg ma
    rw [la]
    refine Ev.bind (b := true) (Ev.pos (by simp) (Ev.now _)) (Ev.pos rfl (Ev.bind (b := true) (Ev.neg (by simp) (Ev.pos (by simp) ?_)) (Ev.now _)))
    by_cases mb : MayT b n
    · have lb : laidT b n = (frameOf b.f0 (bodyT b n), 0) := if_pos mb
      rw [lb]; exact Ev.pos rfl (Ev.bind awake20_ev (Ev.now _))
    · have lb : laidT b n = ([], 2) := if_neg mb
      rw [lb]; exact Ev.neg (by simp) (Ev.pos (by simp) (Ev.bind awake20_ev (Ev.now _)))
  have la : laidT a n = (frameOf a.f0 (bodyT a n), 0) := if_pos ma
  rw [la]
  by_cases mb : MayT b n
  case neg =>
    have lb : laidT b n = ([], 2) := if_neg mb
    rw [lb]
    exact Ev.bind (b := true) (Ev.neg (by simp) (Ev.now _)) (Ev.pos rfl (Ev.bind (b := true) (Ev.pos rfl (Ev.neg (by simp) (Ev.pos (by simp) (Ev.bind awake20_ev (Ev.now _))))) (Ev.now _)))
  have lb : laidT b n = (frameOf b.f0 (bodyT b n), 0) := if_pos mb
  rw [lb]
  have aa : Acc (frameOf a.f0 (bodyT a n)) n a := ⟨ma, rfl⟩
  have hl := aa.len
  have ml : ¬ MayT a (n + 1) := fun h => by have h1 := ma.facts; have h2 := h.facts; omega
  have ll : laidT a (n + 1) = ([], 2) := if_neg ml
  rw [ll]
  obtain ⟨r, hr, hR⟩ := tRead_ev hl.2.2 (by omega) (n + 1)
  obtain rfl : r = (z54T, 12) := hR.uniq (.inr ⟨fun m hm => by
    have h1 := ma.facts
    have h2 := hm.1.facts
    have b1 := bodyT_len ma
    have b2 := bodyT_len hm.1
    have h3 := frame_inj (by omega) (by omega) (by omega) (by omega) hm.2
    have h4 := congrArg (fun l : List Int => l.getD 2 0) h3.2
    have h5 : (bodyT a n).getD 2 0 = n := rfl
    have h6 : (bodyT m (n + 1)).getD 2 0 = n + 1 := rfl
    simp only [h5, h6] at h4
    omega, rfl⟩)
  refine Ev.bind (b := false) (Ev.neg (by simp) (Ev.now _)) (Ev.neg (by simp) (Ev.bind hr (Ev.bind (b := true) ?_ (Ev.now _))))
  have hiff : frameOf a.f0 (bodyT a n) = frameOf b.f0 (bodyT b n) ↔ a = b := ⟨fun h => aa.uniq ⟨mb, h⟩, fun h => by rw [h]⟩
  refine Ev.bind (SameBytes_ev _ _ (by simp only; omega)) (Ev.bind (tSame_ev hsa) ?_)
  rw [dec_iff hiff]
  exact Ev.pos (by simp) (Ev.pos rfl (Ev.pos rfl (Ev.bind awake20_ev (Ev.now _))))
end Go.Proofs.YtfocilpnbiciaaaDoor.Pure
