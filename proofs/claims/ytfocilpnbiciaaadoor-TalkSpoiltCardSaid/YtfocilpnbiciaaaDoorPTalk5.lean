/- Messages in plain words: compared, written over; what the laws need of them. -/
import Derived.Test.YtfocilpnbiciaaaDoorF0
import Derived.Test.YtfocilpnbiciaaaDoorF2
import Derived.Test.YtfocilpnbiciaaaDoorF3
import Derived.Test.YtfocilpnbiciaaaDoorPTalk4
namespace Go.Proofs.YtfocilpnbiciaaaDoor.Pure
open Go Go.Gg Go.Gp Gf
set_option linter.unusedVariables false
set_option linter.unusedSimpArgs false

theorem ext39 {a b : List T39} (hl : a.length = b.length) : (∀ i, i < a.length → a.getD i z39 = b.getD i z39) ↔ a = b := by
  refine ⟨fun h => List.ext_getElem hl fun i h1 h2 => ?_, fun e _ _ => by rw [e]⟩
  have := h i h1
  rwa [getD_eq a z39 h1, getD_eq b z39 h2] at this
theorem SameRecords_ev (a b : List T39) (ha : a.length < 4294967296) : Ev (fun k => grapevinelaw0_SameRecords k a b) (decide (a = b)) := by
  unfold grapevinelaw0_SameRecords
  refine Ev.ite (fun h => ?_) (fun h => ?_)
  · exact (Ev.now _).is (decide_eq_false (fun H => h (by rw [H]))).symm
  have hl : a.length = b.length := by omega
  refine Ev.is (r := decide (∀ i, i < a.length → a.getD i z39 = b.getD i z39)) ?_ (decide_eq_decide.2 (ext39 hl))
  refine Ev.all' a.length (fun i => a.getD i z39 = b.getD i z39) ha (fun i hi hp r H => ?_) (fun i hi hp => ?_) ?_ (fun k => rfl) (fun k => rfl)
  · refine Ev.step (fun k => by rw [grapevinelaw0_SameRecords_l0, step64 i (by omega), Int.toNat_natCast]) ?_
    exact Ev.pos (by omega) (Ev.pos (by omega) (Ev.pos (by omega) (Ev.neg (fun h => h hp) H)))
  · refine Ev.step (fun k => by rw [grapevinelaw0_SameRecords_l0, step64 i (by omega), Int.toNat_natCast]) ?_
    exact Ev.pos (by omega) (Ev.pos (by omega) (Ev.pos (by omega) (Ev.pos hp (Ev.now _))))
  · exact Ev.step (fun k => by rw [grapevinelaw0_SameRecords_l0]) (Ev.neg (by omega) (Ev.now _))
theorem EqualFunc_ev (a b : List T39) (ha : a.length < 4294967296) : Ev (fun k => api_Record k a b) (decide (a = b)) := by
  unfold api_Record
  refine Ev.ite (fun h => ?_) (fun h => ?_)
  · exact (Ev.now _).is (decide_eq_false (fun H => h (by rw [H]))).symm
  have hl : a.length = b.length := by omega
  refine Ev.is (r := decide (∀ i, i < a.length → a.getD i z39 = b.getD i z39)) ?_ (decide_eq_decide.2 (ext39 hl))
  refine Ev.all' a.length (fun i => a.getD i z39 = b.getD i z39) ha (fun i hi hp r H => ?_) (fun i hi hp => ?_) ?_ (fun k => rfl) (fun k => rfl)
  · refine Ev.step (fun k => by rw [api_Record_l0, step64 i (by omega), Int.toNat_natCast]) ?_
    refine Ev.pos (by omega) (Ev.pos (by omega) (Ev.pos (by omega) (Ev.bind (b := true) ((Ev.now _).congr fun k => ?_) (Ev.neg (by simp) H))))
    unfold record_Same; exact congrArg some (decide_eq_true hp)
  · refine Ev.step (fun k => by rw [api_Record_l0, step64 i (by omega), Int.toNat_natCast]) ?_
    refine Ev.pos (by omega) (Ev.pos (by omega) (Ev.pos (by omega) (Ev.bind (b := false) ((Ev.now _).congr fun k => ?_) (Ev.pos rfl (Ev.now _)))))
    unfold record_Same; exact congrArg some (decide_eq_false hp)
  · exact Ev.step (fun k => by rw [api_Record_l0]) (Ev.neg (by omega) (Ev.now _))
theorem eq54 (a b : T54) : a = b ↔ a.f0 = b.f0 ∧ a.f1 = b.f1 ∧ a.f2 = b.f2 ∧ a.f3 = b.f3 ∧ a.f4 = b.f4 ∧ a.f5 = b.f5 := by
  obtain ⟨_, _, _, _, _, _⟩ := a
  obtain ⟨_, _, _, _, _, _⟩ := b
  simp only [T54.mk.injEq]
def SmallT (a : T54) : Prop := a.f3.length < 1073741823 ∧ a.f4.length < 1073741823 ∧ a.f5.length < 1073741823
theorem SameMessage_ev {a b : T54} (h : SmallT a) : Ev (fun k => grapevinelaw0_SameMessage k a b) (decide (a = b)) := by
  obtain ⟨s1, s2, s3⟩ := h
  unfold grapevinelaw0_SameMessage
  refine Ev.bind (b := decide (a = b)) ?_ (Ev.now _)
  have hd := dec_iff (eq54 a b)
  by_cases c0 : a.f0 = b.f0
  case neg => exact Ev.neg c0 ((Ev.now _).is (by rw [hd]; simp [c0]))
  refine Ev.pos c0 ?_
  by_cases c1 : a.f1 = b.f1
  case neg => exact Ev.neg c1 ((Ev.now _).is (by rw [hd]; simp [c1]))
  refine Ev.pos c1 ?_
  by_cases c2 : a.f2 = b.f2
  case neg => exact Ev.neg c2 ((Ev.now _).is (by rw [hd]; simp [c2]))
  refine Ev.pos c2 (Ev.bind (SameInts_ev _ _ (by omega)) ?_)
  by_cases c3 : a.f3 = b.f3
  case neg => exact Ev.neg (by simpa using c3) ((Ev.now _).is (by rw [hd]; simp [c3]))
  refine Ev.pos (decide_eq_true c3) (Ev.bind (SameInts_ev _ _ (by omega)) ?_)
  by_cases c4 : a.f4 = b.f4
  case neg => exact Ev.neg (by simpa using c4) ((Ev.now _).is (by rw [hd]; simp [c4]))
  refine Ev.pos (decide_eq_true c4) (Ev.bind (SameRecords_ev _ _ (by omega)) ((Ev.now _).is ?_))
  rw [hd]
  exact dec_iff (by simp [c0, c1, c2, c3, c4])
theorem tSame_ev {a b : T54} (h : SmallT a) : Ev (fun k => talk_Same k a b) (decide (a = b)) := by
  obtain ⟨s1, s2, s3⟩ := h
  unfold talk_Same
  refine Ev.bind (b := decide (a = b)) ?_ (Ev.now _)
  have hd := dec_iff (eq54 a b)
  by_cases c0 : a.f0 = b.f0
  case neg => exact Ev.neg c0 ((Ev.now _).is (by rw [hd]; simp [c0]))
  refine Ev.pos c0 ?_
  by_cases c1 : a.f1 = b.f1
  case neg => exact Ev.neg c1 ((Ev.now _).is (by rw [hd]; simp [c1]))
  refine Ev.pos c1 ?_
  by_cases c2 : a.f2 = b.f2
  case neg => exact Ev.neg c2 ((Ev.now _).is (by rw [hd]; simp [c2]))
  refine Ev.pos c2 (Ev.bind (Equal_ev _ _ (by omega)) ?_)
  by_cases c3 : a.f3 = b.f3
  case neg => exact Ev.neg (by simpa using c3) ((Ev.now _).is (by rw [hd]; simp [c3]))
  refine Ev.pos (decide_eq_true c3) (Ev.bind (Equal_ev _ _ (by omega)) ?_)
  by_cases c4 : a.f4 = b.f4
  case neg => exact Ev.neg (by simpa using c4) ((Ev.now _).is (by rw [hd]; simp [c4]))
  refine Ev.pos (decide_eq_true c4) (Ev.bind (EqualFunc_ev _ _ (by omega)) ((Ev.now _).is ?_))
  rw [hd]
  exact dec_iff (by simp [c0, c1, c2, c3, c4])
theorem greatR_ev (l : List T39) : ∃ g, Ev (fun k => grapevinelaw0_GreatRecords k l 10) g ∧ (g = false → l.length ≤ 10) := by
  unfold grapevinelaw0_GreatRecords
  obtain ⟨r, hr, hE⟩ := Ev.loop (F := fun k (s : Int) => grapevinelaw0_GreatRecords_l0 l 10 k s) (fun s n => 0 ≤ s ∧ s + n = l.length) (fun r => r = Sum.inl true ∨ r = Sum.inr ()) (fun s n hI => by
    obtain ⟨h0, hn⟩ := hI
    by_cases h1 : s < (l.length : Int) ∧ (l.length : Int) ≤ 10
    · by_cases h2 : ((l.getD s.toNat z39).f4.size : Int) > 300
      · refine .inl ⟨Sum.inl true, .inl rfl, ?_⟩
        refine Ev.step (fun k => by rw [grapevinelaw0_GreatRecords_l0]) ?_
        exact Ev.bind (b := true) (Ev.pos h1.1 ((Ev.now _).is (decide_eq_true h1.2))) (Ev.pos rfl (Ev.pos (by omega) (Ev.pos h2 (Ev.now _))))
      · refine .inr ⟨s + 1, n - 1, by omega, ⟨by omega, by omega⟩, fun r H => ?_⟩
        refine Ev.step (fun k => by rw [grapevinelaw0_GreatRecords_l0, i64w (x := s + 1) (by omega)]) ?_
        exact Ev.bind (b := true) (Ev.pos h1.1 ((Ev.now _).is (decide_eq_true h1.2))) (Ev.pos rfl (Ev.pos (by omega) (Ev.neg h2 H)))
    · refine .inl ⟨Sum.inr (), .inr rfl, ?_⟩
      refine Ev.step (fun k => by rw [grapevinelaw0_GreatRecords_l0]) ?_
      refine Ev.bind (b := false) (Ev.ite (fun h => (Ev.now _).is (decide_eq_false (by omega))) (fun h => Ev.now _)) (Ev.neg (by simp) (Ev.now _))) 0 l.length ⟨by omega, by omega⟩
  rcases hr with rfl | rfl
  · exact ⟨true, Ev.bind hE (Ev.now _), by simp⟩
  · refine ⟨decide ((l.length : Int) > 10), Ev.bind hE (Ev.now _), fun h => ?_⟩
    have := of_decide_eq_false h
    omega
theorem great_ev (m : T54) : ∃ g, Ev (fun k => grapevinelaw20_great k m) g ∧ (g = false → m.f3.length ≤ 20 ∧ m.f4.length ≤ 20 ∧ m.f5.length ≤ 10) := by
  unfold grapevinelaw20_great
  by_cases h1 : (m.f3.length : Int) > 20
  · exact ⟨true, Ev.bind (b := true) (Ev.pos h1 (Ev.now _)) (Ev.now _), by simp⟩
  by_cases h2 : (m.f4.length : Int) > 20
  · exact ⟨true, Ev.bind (b := true) (Ev.neg h1 (Ev.pos h2 (Ev.now _))) (Ev.now _), by simp⟩
  obtain ⟨g, hg, h3⟩ := greatR_ev m.f5
  exact ⟨g, Ev.bind (Ev.neg h1 (Ev.neg h2 (Ev.bind hg (Ev.now _)))) (Ev.now _), fun h => ⟨by omega, by omega, h3 h⟩⟩
theorem Acc.small {l : List Int} {n : Int} {m : T54} (h : Acc l n m) : SmallT m := by
  have := h.1.facts
  exact ⟨by omega, by omega, by omega⟩
theorem ReadT.small {l : List Int} {n : Int} {r : T54 × Int} (h : ReadT l n r) : SmallT r.1 := by
  rcases h with ⟨m, h, rfl⟩ | ⟨_, rfl⟩
  · exact h.small
  · simp [SmallT, z54T]
def hello : T54 := ⟨1, 0, 1, [3, 0], [1, 0], []⟩
theorem hello_may : MayT hello 2 := by decide +kernel
theorem Acc.len {l : List Int} {n : Int} {m : T54} (h : Acc l n m) : 12 ≤ l.length ∧ l.length ≤ 1012 ∧ Bytes l := by
  have hb := bodyT_len h.1
  rw [h.2, len_frameOf]
  exact ⟨by omega, by omega, frameOf_bytes _ hb.2⟩
theorem awake20_ev : Ev (fun k => grapevinelaw20_awake k) true := by
  unfold grapevinelaw20_awake
  have hone : grapevinelaw20_hello = some hello := rfl
  simp only [hone, Option.bind_some]
  have hacc : Acc (frameOf 1 (bodyT hello 2)) 2 hello := ⟨hello_may, rfl⟩
  have hl := hacc.len
  have hlen : (frameOf 1 (bodyT hello 2)).length = 24 := by rw [len_frameOf]; decide +kernel
  obtain ⟨r, hr, hR⟩ := tRead_ev hl.2.2 (by omega) 2
  obtain rfl : r = (hello, 0) := hR.uniq (.inl ⟨hello, hacc, rfl⟩)
  obtain ⟨r2, hr2, hR2⟩ := tRead_ev Bytes.nil (by simp) 2
  obtain rfl : r2 = (z54T, 12) := hR2.uniq (.inr ⟨fun m hm => by have := hm.len; simp at this, rfl⟩)
  have hsm : SmallT hello := hacc.small
  refine Ev.bind ((tLay_ev hello 2).is (if_pos hello_may)) (Ev.bind hr (Ev.bind hr2 ?_))
  refine Ev.bind (b := true) (Ev.pos rfl (Ev.pos (by simp only; exact congrArg Int.ofNat hlen) (Ev.pos rfl ?_))) (Ev.now _)
  refine Ev.bind ((SameMessage_ev hsm).is (decide_eq_true rfl)) (Ev.pos rfl (Ev.pos rfl ?_))
  refine Ev.bind ((tMay_ev _ _).is (decide_eq_true hello_may)) (Ev.pos rfl ?_)
  refine Ev.bind ((tMay_ev hello 3).is (decide_eq_false (by decide +kernel))) (Ev.pos rfl ?_)
  exact Ev.bind ((tSame_ev hsm).is (decide_eq_true rfl)) (Ev.now _)
end Go.Proofs.YtfocilpnbiciaaaDoor.Pure
