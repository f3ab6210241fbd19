/- Lists of records compared, lent, kept and written over. -/
import Derived.Test.YtjmhhmljldjmjaaDoorF0
import Derived.Test.YtjmhhmljldjmjaaDoorF3
import Derived.Test.YtjmhhmljldjmjaaDoorF5
import Derived.Test.YtjmhhmljldjmjaaDoorPSort2
namespace Go.Proofs.YtjmhhmljldjmjaaDoor.Pure
open Go Go.Gg Go.Gp Gf
set_option linter.unusedVariables false
set_option linter.unusedSimpArgs false
theorem ext27 {a b : List T27} (hl : a.length = b.length) (h : ∀ i, i < a.length → a.getD i z27 = b.getD i z27) : a = b := by
  apply List.ext_getElem hl
  intro i h1 h2
  have := h i h1
  rwa [getD_eq a z27 h1, getD_eq b z27 h2] at this
theorem SameRecords_ev (a b : List T27) (ha : a.length < 4294967296) : Ev (fun k => grapevinelaw0_SameRecords k a b) (decide (a = b)) := by
  unfold grapevinelaw0_SameRecords
  refine Ev.ite (fun h => ?_) (fun h => ?_)
  · have : a ≠ b := fun e => h (by rw [e])
    exact (Ev.now _).is (by simp [this])
  · have hl : a.length = b.length := by omega
    obtain ⟨r, hr, hE⟩ := Ev.loop (F := fun k (s : Int) => grapevinelaw0_SameRecords_l0 a b k s) (fun s n => 0 ≤ s ∧ s + n = a.length ∧ ∀ i, i < s.toNat → a.getD i z27 = b.getD i z27) (fun r => r = if a = b then Sum.inr () else Sum.inl false) (fun s n hI => by
      obtain ⟨h0, hn, hall⟩ := hI
      by_cases h1 : s < (a.length : Int)
      · by_cases h2 : a.getD s.toNat z27 = b.getD s.toNat z27
        · refine .inr ⟨s + 1, n - 1, by omega, ⟨by omega, by omega, fun i hi => ?_⟩, fun r H => ?_⟩
          · by_cases e : i = s.toNat
            · rw [e]; exact h2
            · exact hall i (by omega)
          · refine Ev.step (fun k => by rw [grapevinelaw0_SameRecords_l0]) ?_
            refine Ev.pos h1 (Ev.pos (by omega) (Ev.pos (by omega) (Ev.neg (fun h => h h2) ?_)))
            rw [i64w (by omega)]
            exact H
        · refine .inl ⟨Sum.inl false, ?_, ?_⟩
          · rw [if_neg (fun e => h2 (by rw [e]))]
          · refine Ev.step (fun k => by rw [grapevinelaw0_SameRecords_l0]) ?_
            exact Ev.pos h1 (Ev.pos (by omega) (Ev.pos (by omega) (Ev.pos h2 (Ev.now _))))
      · refine .inl ⟨Sum.inr (), ?_, ?_⟩
        · rw [if_pos (ext27 hl (fun i hi => hall i (by omega)))]
        · refine Ev.step (fun k => by rw [grapevinelaw0_SameRecords_l0]) ?_
          exact Ev.neg h1 (Ev.now _)) 0 a.length ⟨by omega, by omega, fun i hi => absurd hi (by simp)⟩
    refine Ev.bind hE ?_
    rw [hr]
    by_cases e : a = b
    · rw [if_pos e]; exact (Ev.now _).is (by simp [e])
    · rw [if_neg e]; exact (Ev.now _).is (by simp [e])
theorem KeptRecords_ev (a b : List T27) (ha : a.length ≤ 1073741824) : Ev (fun k => grapevinelaw0_KeptRecords k a b) (decide (a = b)) := by
  have e : IntKind.i64.wrap ((a.length : Int) + 3) = (a.length : Int) + 3 := i64w (by omega)
  obtain ⟨m, hm⟩ : ∃ m : T27, m = ⟨0, 0, 0, 0, (⟨#[114, 111, 111, 109]⟩ : ByteArray)⟩ := ⟨_, rfl⟩
  have em : ((a ++ ([m, m, m] : List T27)).take ((a.length : Int) + 3).toNat).drop (a.length : Int).toNat = [m, m, m] := by
    rw [show ((a.length : Int) + 3).toNat = a.length + 3 by omega, List.take_of_length_le (by simp)]
    simp
  unfold grapevinelaw0_KeptRecords
  rw [e, ← hm]
  refine Ev.pos ⟨by omega, by omega, by simp⟩ ?_
  simp only [em]
  refine Ev.name fun v hv => ?_
  subst hv
  have key : ∀ (i : Nat), i ≤ 3 → Ev (fun k => grapevinelaw0_KeptRecords_l0 [m, m, m] k ((3 - i : Nat) : Int)) (Sum.inr ()) := by
    intro i
    induction i with
    | zero =>
      intro _
      refine Ev.step (fun k => by rw [grapevinelaw0_KeptRecords_l0]) ?_
      exact Ev.neg (by omega) (Ev.now _)
    | succ i ih =>
      intro hi
      have ih := ih (by omega)
      refine Ev.step (fun k => by rw [grapevinelaw0_KeptRecords_l0]) ?_
      refine Ev.pos (by omega) (Ev.pos (by simp; omega) (Ev.neg ?_ ?_))
      · rw [← hm]
        have : i = 0 ∨ i = 1 ∨ i = 2 := by omega
        rcases this with rfl | rfl | rfl <;> simp
      · rw [i64w (by omega), show (((3 - (i + 1) : Nat) : Int) + 1) = ((3 - i : Nat) : Int) by omega]
        exact ih
  refine Ev.bind (key 3 (by omega)) ?_
  exact Ev.bind (SameRecords_ev a b (by omega)) (Ev.now _)
theorem OverRecords_ev (a : List T27) (ha : a.length < 1073741824) : Ev (fun k => grapevinelaw0_OverRecords k a) () := by
  unfold grapevinelaw0_OverRecords
  obtain ⟨r, hr, hE⟩ := Ev.loop (F := fun k (s : Int × List T27) => grapevinelaw0_OverRecords_l0 k s.1 s.2) (fun s n => 0 ≤ s.1 ∧ s.1 + n = a.length ∧ s.2.length = a.length) (fun r => r.length = a.length) (fun s n hI => by
    obtain ⟨h0, hn, hl⟩ := hI
    by_cases h1 : s.1 < (s.2.length : Int)
    · refine .inr ⟨(s.1 + 1, s.2.set s.1.toNat (⟨0, 0, 0, 0, (⟨#[111, 118, 101, 114]⟩ : ByteArray)⟩ : T27)), n - 1, by omega, ⟨by simp; omega, by simp; omega, by simpa using hl⟩, fun r H => ?_⟩
      refine Ev.step (fun k => by rw [grapevinelaw0_OverRecords_l0]) ?_
      refine Ev.pos h1 (Ev.pos (by omega) ?_)
      rw [i64w (by omega)]
      exact H
    · refine .inl ⟨s.2, hl, ?_⟩
      refine Ev.step (fun k => by rw [grapevinelaw0_OverRecords_l0]) ?_
      exact Ev.neg h1 (Ev.now _)) (0, a) a.length ⟨by simp, by simp, rfl⟩
  refine Ev.bind hE ?_
  exact Ev.pos (by simp; omega) (Ev.now _)
theorem Great_ev (l : List T27) (m : Int) (hm : 0 ≤ m ∧ m < 1000) : ∃ r, Ev (fun k => grapevinelaw0_GreatRecords k l m) r ∧ (r = false → (l.length : Int) ≤ m) := by
  by_cases h : (l.length : Int) ≤ m
  case neg =>
    refine ⟨true, ?_, fun e => by cases e⟩
    refine Ev.bind (b := Sum.inr ()) (Ev.step (g := fun _ => some (Sum.inr ())) (fun k => ?_) (Ev.now _)) ((Ev.now _).is (decide_eq_true (by omega)))
    rw [grapevinelaw0_GreatRecords_l0]
    by_cases h0 : (0 : Int) < (l.length : Int)
    · rw [if_pos h0, decide_eq_false h]; rfl
    · rw [if_neg h0]; rfl
  · obtain ⟨r, hr, hE⟩ := Ev.loop (F := fun k (s : Int) => grapevinelaw0_GreatRecords_l0 l m k s) (fun s n => 0 ≤ s ∧ s + n = l.length) (fun r => r = Sum.inl true ∨ r = Sum.inr ()) (fun s n hI => by
      obtain ⟨h0, hn⟩ := hI
      by_cases h1 : s < (l.length : Int)
      · by_cases h2 : (((l.getD s.toNat z27).f4).size : Int) > 300
        · refine .inl ⟨Sum.inl true, .inl rfl, Ev.step (g := fun _ => some (Sum.inl true)) (fun k => ?_) (Ev.now _)⟩
          rw [grapevinelaw0_GreatRecords_l0, if_pos h1, decide_eq_true h]
          simp only [Option.bind_some, if_true]
          rw [if_pos ⟨h0, h1⟩, if_pos h2]
        · refine .inr ⟨s + 1, n - 1, by omega, ⟨by omega, by omega⟩, fun r H => Ev.step (fun k => ?_) H⟩
          rw [grapevinelaw0_GreatRecords_l0, if_pos h1, decide_eq_true h]
          simp only [Option.bind_some, if_true]
          rw [if_pos ⟨h0, h1⟩, if_neg h2, i64w (by omega)]
      · refine .inl ⟨Sum.inr (), .inr rfl, Ev.step (g := fun _ => some (Sum.inr ())) (fun k => ?_) (Ev.now _)⟩
        rw [grapevinelaw0_GreatRecords_l0, if_neg h1]; rfl) 0 l.length ⟨by omega, by omega⟩
    rcases hr with rfl | rfl
    · exact ⟨true, Ev.bind hE (Ev.now _), fun e => by cases e⟩
    · exact ⟨false, Ev.bind hE ((Ev.now _).is (decide_eq_false (by omega))), fun _ => h⟩
theorem rSame_some (a b : T27) : grapevineref4_Same a b = some (decide (a = b)) := by
  unfold grapevineref4_Same
  obtain ⟨a0, a1, a2, a3, a4⟩ := a
  obtain ⟨b0, b1, b2, b3, b4⟩ := b
  simp only [T23.mk.injEq, T25.mk.injEq, T27.mk.injEq]
  by_cases h1 : a0 = b0 ∧ a1 = b1
  · by_cases h2 : a2 = b2 ∧ a3 = b3
    · rw [if_pos h1, if_pos h2]
      simp only [Option.bind_some]
      congr 1
      rw [Bool.eq_iff_iff, bytes_eq]
      simp [h1, h2]
    · rw [if_pos h1, if_neg h2]
      simp only [Option.bind_some]
      congr 1
      exact (decide_eq_false fun h => h2 ⟨h.2.2.1, h.2.2.2.1⟩).symm
  · rw [if_neg h1]
    simp only [Option.bind_some]
    congr 1
    exact (decide_eq_false fun h => h1 ⟨h.1, h.2.1⟩).symm
theorem before_same (a b : T23) : record_Before a b = grapevineref4_Before a b := by
  unfold record_Before grapevineref4_Before
  by_cases h1 : a.f0 < b.f0
  · rw [if_pos (by omega), if_pos h1, decide_eq_true h1]; rfl
  · by_cases h2 : a.f0 = b.f0
    · rw [if_neg (not_not_intro h2), if_neg h1, if_pos h2]; rfl
    · rw [if_pos h2, if_neg h1, if_neg h2, decide_eq_false h1]; rfl
end Go.Proofs.YtjmhhmljldjmjaaDoor.Pure
