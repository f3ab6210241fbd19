/- TalkLays: the bytes of messages are the document's. -/
import Derived.Test.YtfocilpnbiciaaaDoorF7
import Derived.Test.YtfocilpnbiciaaaDoorPTalk5
import Derived.Test.YtfocilpnbiciaaaDoorLTalkLays
namespace Go.Proofs.YtfocilpnbiciaaaDoor.Pure
open Go Go.Gg Go.Gp Gf
set_option linter.unusedVariables false
set_option linter.unusedSimpArgs false

theorem OverBytes_ev (a : List Int) (ha : a.length < 1073741824) : Ev (fun k => grapevinelaw0_OverBytes k a) () := by
  unfold grapevinelaw0_OverBytes
  obtain ⟨r, hr, hE⟩ := Ev.loop (F := fun k (s : Int × List Int) => grapevinelaw0_OverBytes_l0 k s.1 s.2) (fun s n => 0 ≤ s.1 ∧ s.1 + n = a.length ∧ s.2.length = a.length) (fun r => r.length = a.length) (fun s n hI => by
    obtain ⟨h0, hn, hl⟩ := hI
    by_cases h1 : s.1 < (s.2.length : Int)
    · refine .inr ⟨(s.1 + 1, s.2.set s.1.toNat 238), n - 1, by omega, ⟨by simp; omega, by simp; omega, by simpa using hl⟩, fun r H => ?_⟩
      refine Ev.step (fun k => by rw [grapevinelaw0_OverBytes_l0]) ?_
      refine Ev.pos h1 (Ev.pos (by omega) ?_)
      rw [i64w (by omega)]
      exact H
    · refine .inl ⟨s.2, hl, ?_⟩
      refine Ev.step (fun k => by rw [grapevinelaw0_OverBytes_l0]) ?_
      exact Ev.neg h1 (Ev.now _)) (0, a) a.length ⟨by simp, by simp, rfl⟩
  refine Ev.bind hE ?_
  exact Ev.pos (by simp; omega) (Ev.now _)
theorem TalkLays : TalkLays_Pure := by
  intro a b n ha hb hn
  refine Ev.rounds (f := fun k => grapevinelaw20_TalkLays k a b n) ?_
  unfold grapevinelaw20_TalkLays
  obtain ⟨ga, hga, fa⟩ := great_ev a
  obtain ⟨gb, hgb, fb⟩ := great_ev b
  refine Ev.bind (b := (ga || gb)) (Ev.bind hga ?_) ?_
  · cases ga with
    | true => exact Ev.pos rfl (Ev.now _)
    | false => exact Ev.neg (by simp) (Ev.bind hgb ((Ev.now _).is (by simp)))
  refine Ev.ite (fun h => Ev.bind awake20_ev (Ev.now _)) (fun h => ?_)
  have hg : ga = false ∧ gb = false := by simpa using h
  have sa := fa hg.1
  have hsa : SmallT a := ⟨by omega, by omega, by omega⟩
  have hll : (laidT a n).1.length ≤ 1012 := by
    unfold laidT
    by_cases hm : MayT a n
    · rw [if_pos hm]; exact (Acc.len (n := n) ⟨hm, rfl⟩).2.1
    · rw [if_neg hm]; simp
  refine Ev.bind (tLay_ev a n) (Ev.bind (rtLay_ev a n) ?_)
  refine Ev.bind (b := true) (Ev.bind ((SameBytes_ev _ _ (by omega)).is (decide_eq_true rfl)) (Ev.pos rfl (Ev.bind (b := (laidT a n).2) ((Ev.now _).congr fun k => rfl) (Ev.pos rfl ?_)))) ?_
  · refine Ev.bind (tMay_ev a n) (Ev.bind (rtMay_ev a n) (Ev.pos (by simp) ?_))
    refine Ev.bind (tSame_ev hsa) (Ev.bind (SameMessage_ev hsa) (Ev.pos (by simp) ?_))
    exact Ev.bind ((tSame_ev hsa).is (decide_eq_true rfl)) (Ev.now _)
  refine Ev.bind (OverBytes_ev _ (by omega)) (Ev.bind (tLay_ev a n) ?_)
  exact Ev.bind (b := true) (Ev.pos rfl (Ev.bind ((SameBytes_ev _ _ (by omega)).is (decide_eq_true rfl)) (Ev.pos rfl (Ev.bind awake20_ev (Ev.now _))))) (Ev.now _)
end Go.Proofs.YtfocilpnbiciaaaDoor.Pure
