/- TalkSpoilt: what was laid is read again; spoilt it is none. -/
import Derived.Test.YtfocilpnbiciaaaDoorPTalk5
import Derived.Test.YtfocilpnbiciaaaDoorLTalkSpoilt
namespace Go.Proofs.YtfocilpnbiciaaaDoor.Pure
open Go Go.Gg Go.Gp Gf
set_option linter.unusedVariables false
set_option linter.unusedSimpArgs false

theorem not_acc {l : List Int} {n : Int} (h : ¬ ((nextS l 0).2.2.2 = true ∧ (nextS l 0).2.2.1 = (l.length : Int))) : ∀ m, ¬ Acc l n m := fun m hm => by
  rw [hm.next] at h
  exact h ⟨rfl, rfl⟩
theorem frame_lens (kind : Int) (body : List Int) : (frameOf kind body).getD 2 0 = (body.length : Int) / 256 % 256 ∧ (frameOf kind body).getD 3 0 = (body.length : Int) % 256 := by
  have h := frame_split kind body []
  rw [List.append_nil] at h
  rw [h]
  exact ⟨rfl, rfl⟩
theorem TalkSpoilt : TalkSpoilt_Pure := by
  intro m n cut by_ hm hn hcut hby0
  have hby := wf_u8 hby0
  refine Ev.rounds (f := fun k => grapevinelaw20_TalkSpoilt k m n cut by_) ?_
  unfold grapevinelaw20_TalkSpoilt
  obtain ⟨g, hg, fg⟩ := great_ev m
  refine Ev.bind hg (Ev.ite (fun h => Ev.bind awake20_ev (Ev.now _)) (fun h => Ev.bind (tLay_ev m n) ?_))
  by_cases ma : MayT m n
  case neg =>
    have la : laidT m n = ([], 2) := if_neg ma
    rw [la]
    exact Ev.pos (by simp) (Ev.bind (b := true) (Ev.pos (by simp) (Ev.pos rfl (Ev.bind awake20_ev (Ev.now _)))) (Ev.now _))
  have la : laidT m n = (frameOf m.f0 (bodyT m n), 0) := if_pos ma
  rw [la]
  have aa : Acc (frameOf m.f0 (bodyT m n)) n m := ⟨ma, rfl⟩
  have hl := aa.len
  have hf := ma.facts
  have hbt := bodyT_len ma
  have hnx := aa.next
  have hlf := len_frameOf m.f0 (bodyT m n)
  refine Ev.neg (by simp) (Ev.neg (by simp only; omega) ?_)
  obtain ⟨r, hr, hR⟩ := tRead_ev hl.2.2 (by omega) n
  obtain rfl : r = (m, 0) := hR.uniq (.inl ⟨m, aa, rfl⟩)
  refine Ev.bind hr ?_
  obtain ⟨t, ht, h0, h1⟩ := low_some (a := cut) (b := ((frameOf m.f0 (bodyT m n)).length : Int)) (by omega)
  simp only [ht, Option.bind_some]
  refine Ev.pos (by omega) ?_
  -- cut short
  obtain ⟨r1, hr1, hR1⟩ := tRead_ev (hl.2.2.take t.toNat) (by simp; omega) n
  obtain rfl : r1 = (z54T, 12) := hR1.uniq (.inr ⟨not_acc (fun hh => by
    have := nextAt_cut (kind := m.f0) (body := bodyT m n) (by omega) (c := t.toNat) (by omega)
    have h2 := nextS_none this
    rw [h2] at hh
    exact absurd hh.1 (by simp)), rfl⟩)
  refine Ev.bind hr1 (Ev.pos (by simp only [List.length_nil]; omega) (Ev.pos (by simp only [List.nil_append, List.length_cons, List.length_nil]; omega) ?_))
  simp only [List.nil_append]
  -- longer
  have hb1 : Bytes [by_] := fun x hx => by rw [List.mem_singleton.1 hx]; omega
  obtain ⟨r2, hr2, hR2⟩ := tRead_ev (hl.2.2.app hb1) (by simp; omega) n
  obtain rfl : r2 = (z54T, 12) := hR2.uniq (.inr ⟨not_acc (fun hh => by
    have h2 := nextS_frame0 (kind := m.f0) (body := bodyT m n) (rest := [by_]) (by omega) (by omega)
    rw [h2] at hh
    have := hh.2
    simp only [List.length_append, List.length_cons, List.length_nil] at this
    omega), rfl⟩)
  refine Ev.bind hr2 (Ev.pos (by simp only [List.length_nil]; omega) (Ev.pos (by omega) (Ev.pos (by omega) ?_)))
  obtain ⟨v, hv⟩ : ∃ v, v = (frameOf m.f0 (bodyT m n)).set t.toNat (Go.bits .xor .u8 ((frameOf m.f0 (bodyT m n)).getD t.toNat 0) by_) := ⟨_, rfl⟩
  simp only [← hv]
  have hfb := hl.2.2
  obtain ⟨hx1, hx2⟩ := xor8 (hfb.get t.toNat) hby
  have hbv : Bytes v := by
    rw [hv]
    intro x hx
    rcases List.mem_or_eq_of_mem_set hx with hx | hx
    · exact hfb x hx
    · rw [hx]; exact hx1
  have hlv : v.length = (frameOf m.f0 (bodyT m n)).length := by rw [hv, List.length_set]
  obtain ⟨r3, hr3, hR3⟩ := tRead_ev hbv (by omega) n
  refine Ev.bind hr3 (Ev.bind (b := true) (Ev.pos (by simp) (Ev.bind ((SameMessage_ev aa.small).is (decide_eq_true rfl)) (Ev.pos rfl (Ev.pos (by simp) (Ev.pos (by simp) ?_))))) (Ev.now _))
  by_cases h3 : by_ = 0
  · exact Ev.pos h3 (Ev.bind awake20_ev (Ev.now _))
  refine Ev.neg h3 ?_
  obtain rfl : r3 = (z54T, 12) := hR3.uniq (.inr ⟨fun m' hm' => by
    by_cases hj : t.toNat = 2 ∨ t.toNat = 3
    · have hf' := hm'.1.facts
      have hbt' := bodyT_len hm'.1
      have hlen : (bodyT m' n).length = (bodyT m n).length := by
        have := congrArg List.length hm'.2
        rw [hlv, len_frameOf, len_frameOf] at this
        omega
      obtain ⟨a2, a3⟩ := frame_lens m'.f0 (bodyT m' n)
      obtain ⟨b2, b3⟩ := frame_lens m.f0 (bodyT m n)
      rw [← hm'.2, hv, hlen, ← b2] at a2
      rw [← hm'.2, hv, hlen, ← b3] at a3
      rcases hj with hj | hj
      · rw [hj] at a2 hx2
        rw [getD_set_eq' _ _ (by omega)] at a2
        exact h3 (hx2 a2)
      · rw [hj] at a3 hx2
        rw [getD_set_eq' _ _ (by omega)] at a3
        exact h3 (hx2 a3)
    · have h4 := nextAt_spoilt (kind := m.f0) hbt.2 (by omega) (j := t.toNat) (by omega) (fun e => hj (.inl e)) (fun e => hj (.inr e)) hby h3
      rw [← hv] at h4
      have h5 := nextS_none h4
      rw [hm'.next] at h5
      simp at h5, rfl⟩)
  exact Ev.pos rfl (Ev.bind awake20_ev (Ev.now _))
end Go.Proofs.YtfocilpnbiciaaaDoor.Pure
