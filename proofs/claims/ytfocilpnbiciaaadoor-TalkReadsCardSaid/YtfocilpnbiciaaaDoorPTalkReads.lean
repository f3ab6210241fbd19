/- TalkReads: what the program reads is what the document reads. -/
import Derived.Test.YtfocilpnbiciaaaDoorF9
import Derived.Test.YtfocilpnbiciaaaDoorPTalk5
import Derived.Test.YtfocilpnbiciaaaDoorPTalk4r
import Derived.Test.YtfocilpnbiciaaaDoorLTalkReads
namespace Go.Proofs.YtfocilpnbiciaaaDoor.Pure
open Go Go.Gg Go.Gp Gf
set_option linter.unusedVariables false
set_option linter.unusedSimpArgs false

theorem OverRecords_ev (a : List T39) (ha : a.length < 1073741824) : Ev (fun k => grapevinelaw0_OverRecords k a) () := by
  unfold grapevinelaw0_OverRecords
  obtain ⟨r, hr, hE⟩ := Ev.loop (F := fun k (s : Int × List T39) => grapevinelaw0_OverRecords_l0 k s.1 s.2) (fun s n => 0 ≤ s.1 ∧ s.1 + n = a.length ∧ s.2.length = a.length) (fun r => r.length = a.length) (fun s n hI => by
    obtain ⟨h0, hn, hl⟩ := hI
    by_cases h1 : s.1 < (s.2.length : Int)
    · refine .inr ⟨(s.1 + 1, s.2.set s.1.toNat ⟨0, 0, 0, 0, ⟨#[111, 118, 101, 114]⟩⟩), n - 1, by omega, ⟨by simp; omega, by simp; omega, by simpa using hl⟩, fun r H => ?_⟩
      refine Ev.step (fun k => by rw [grapevinelaw0_OverRecords_l0]) ?_
      refine Ev.pos h1 (Ev.pos (by omega) ?_)
      rw [i64w (by omega)]
      exact H
    · refine .inl ⟨s.2, hl, ?_⟩
      refine Ev.step (fun k => by rw [grapevinelaw0_OverRecords_l0]) ?_
      exact Ev.neg h1 (Ev.now _)) (0, a) a.length ⟨by simp, by simp, rfl⟩
  refine Ev.bind hE ?_
  exact Ev.pos (by simp; omega) (Ev.now _)
theorem OverMessage_ev {m : T54} (h : SmallT m) : Ev (fun k => grapevinelaw0_OverMessage k m) () := by
  obtain ⟨h1, h2, h3⟩ := h
  exact Ev.bind (OverInts_ev _ (by omega)) (Ev.bind (OverInts_ev _ (by omega)) (Ev.bind (OverRecords_ev _ (by omega)) (Ev.now _)))
theorem TalkReads : TalkReads_Pure := by
  intro l n hl hn
  obtain ⟨hl1, hl2⟩ := hl
  have hb := Bytes.of hl2
  refine Ev.rounds (f := fun k => grapevinelaw20_TalkReads k l n) ?_
  unfold grapevinelaw20_TalkReads
  refine Ev.ite (fun h => Ev.bind awake20_ev (Ev.now _)) (fun h => ?_)
  obtain ⟨r, hr, hR⟩ := tRead_ev hb (by omega) n
  obtain ⟨r', hr', hR'⟩ := rtRead_ev hb (by omega) n (wf_i64 hn)
  obtain rfl := hR.uniq hR'
  have hs := hR.small
  refine Ev.pos (by omega) (Ev.bind hr (Ev.bind hr' ?_))
  refine Ev.bind (b := true) (Ev.bind ((SameMessage_ev hs).is (decide_eq_true rfl)) (Ev.pos rfl (Ev.bind (b := r.2) ((Ev.now _).congr fun k => rfl) (Ev.pos rfl (Ev.bind ((KeptBytes_ev l l (by omega)).is (decide_eq_true rfl)) (Ev.now _)))))) ?_
  refine Ev.bind (OverMessage_ev hs) ?_
  refine Ev.bind (b := true) (Ev.pos rfl (Ev.bind ((KeptBytes_ev l l (by omega)).is (decide_eq_true rfl)) (Ev.pos rfl (Ev.bind awake20_ev (Ev.now _))))) (Ev.now _)
end Go.Proofs.YtfocilpnbiciaaaDoor.Pure
