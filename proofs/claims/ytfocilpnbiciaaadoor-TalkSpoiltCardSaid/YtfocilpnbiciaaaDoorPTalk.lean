/- Messages in plain words: which may be, and their bytes. -/
import Derived.Test.YtfocilpnbiciaaaDoorF0
import Derived.Test.YtfocilpnbiciaaaDoorF2
import Derived.Test.YtfocilpnbiciaaaDoorF4
import Derived.Test.YtfocilpnbiciaaaDoorF7
import Derived.Test.YtfocilpnbiciaaaDoorPVec
import Derived.Test.YtfocilpnbiciaaaDoorPRec2
import Derived.Test.YtfocilpnbiciaaaDoorPFrm3
namespace Go.Proofs.YtfocilpnbiciaaaDoor.Pure
open Go Go.Gg Go.Gp Gf
set_option linter.unusedVariables false
set_option linter.unusedSimpArgs false

/-! ## Which may be -/
def Bef (a b : T39) : Prop := a.f0 < b.f0 ∨ (a.f0 = b.f0 ∧ a.f1 < b.f1)
instance (a b : T39) : Decidable (Bef a b) := by unfold Bef; infer_instance
def RAt (n : Int) (i : Nat) (x y : T39) : Prop := Mayr x ∧ x.f0 < n ∧ (0 < i → Bef y x)
instance (n : Int) (i : Nat) (x y : T39) : Decidable (RAt n i x y) := by unfold RAt; infer_instance
def Rise (n : Int) (rs : List T39) : Prop := ∀ i, i < rs.length → RAt n i (rs.getD i z39) (rs.getD (i - 1) z39)
instance (n : Int) (rs : List T39) : Decidable (Rise n rs) := by unfold Rise; infer_instance
def MayT (m : T54) (n : Int) : Prop := ((m.f0 = 1 ∧ m.f5 = []) ∨ (m.f0 = 2 ∧ m.f5.length ≤ 5)) ∧ (0 ≤ m.f1 ∧ m.f1 < n) ∧ (0 ≤ m.f2 ∧ m.f2 < n) ∧ m.f1 ≠ m.f2 ∧ MayV n m.f3 ∧ MayV n m.f4 ∧ BelowV m.f4 m.f3 ∧ Rise n m.f5
instance (m : T54) (n : Int) : Decidable (MayT m n) := by unfold MayT; infer_instance
theorem Before_some (a b : T39) : record_Before ⟨a.f0, a.f1⟩ ⟨b.f0, b.f1⟩ = some (decide (Bef a b)) := by
  unfold record_Before Bef
  by_cases h : a.f0 = b.f0
  · simp [h]
  · simp [h]
theorem rBefore_some (a b : T39) : grapevineref4_Before ⟨a.f0, a.f1⟩ ⟨b.f0, b.f1⟩ = some (decide (Bef a b)) := by
  unfold grapevineref4_Before Bef
  by_cases h : a.f0 < b.f0
  · simp [h]
  · by_cases h2 : a.f0 = b.f0 <;> simp [h, h2]
theorem rise_ev {rs : List T39} (hl : rs.length ≤ 5) (n : Int) : Ev (fun k => talk_rise k rs n) (decide (Rise n rs)) := by
  unfold talk_rise
  have one : ∀ i, i < rs.length → Ev (fun k => ((record_May (⟨(rs.getD i z39).f0, (rs.getD i z39).f1, (rs.getD i z39).f2, (rs.getD i z39).f3, (rs.getD i z39).f4⟩ : T39)).bind fun t11 => (if (!t11) = true then some true else (if ((rs.getD i z39).f0) ≥ n then some true else (if (i : Int) > 0 then (if 0 ≤ (IntKind.i64.wrap ((i : Int) - 1)) ∧ (IntKind.i64.wrap ((i : Int) - 1)) < (rs.length : Int) then ((record_Before (⟨(rs.getD (IntKind.i64.wrap ((i : Int) - 1)).toNat z39).f0, (rs.getD (IntKind.i64.wrap ((i : Int) - 1)).toNat z39).f1⟩ : T35) (⟨(rs.getD i z39).f0, (rs.getD i z39).f1⟩ : T35)).bind fun t19 => some (!t19)) else none) else some false))))) (decide (¬ RAt n i (rs.getD i z39) (rs.getD (i - 1) z39))) := fun i hi => by
    refine (Ev.now _).congr fun k => ?_
    rw [i64w (by omega), show ((i : Int) - 1).toNat = i - 1 by omega]
    rw [show (⟨(rs.getD i z39).f0, (rs.getD i z39).f1, (rs.getD i z39).f2, (rs.getD i z39).f3, (rs.getD i z39).f4⟩ : T39) = rs.getD i z39 from rfl, May_some, Before_some]
    generalize rs.getD i z39 = x
    generalize rs.getD (i - 1) z39 = y
    by_cases h1 : Mayr x
    case neg => simp [h1, RAt]
    by_cases h2 : x.f0 < n
    case neg => simp only [h1, decide_true, Option.bind_some, Bool.not_true, Bool.false_eq_true, if_false]; rw [if_pos (by omega)]; simp [h1, h2, RAt]
    by_cases h3 : 0 < i
    · simp only [h1, decide_true, Option.bind_some, Bool.not_true, Bool.false_eq_true, if_false]
      rw [if_neg (by omega), if_pos (by omega), if_pos (by omega)]
      simp [h1, h2, h3, RAt]
    · simp only [h1, decide_true, Option.bind_some, Bool.not_true, Bool.false_eq_true, if_false]
      rw [if_neg (by omega), if_neg (by omega)]
      simp [h1, h2, h3, RAt]
  refine Ev.all' rs.length (fun i => RAt n i (rs.getD i z39) (rs.getD (i - 1) z39)) (by omega) (fun i hi hp r H => ?_) (fun i hi hp => ?_) ?_ (fun k => rfl) (fun k => rfl)
  · refine Ev.step (fun k => by rw [talk_rise_l0, step64 i (by omega), Int.toNat_natCast]) ?_
    exact Ev.pos (by omega) (Ev.pos (by omega) (Ev.bind (one i hi) (Ev.neg (by rw [decide_eq_false (p := ¬ _) (fun h => h hp)]; simp) H)))
  · refine Ev.step (fun k => by rw [talk_rise_l0, step64 i (by omega), Int.toNat_natCast]) ?_
    exact Ev.pos (by omega) (Ev.pos (by omega) (Ev.bind (one i hi) (Ev.pos (decide_eq_true (p := ¬ _) hp) (Ev.now _))))
  · exact Ev.step (fun k => by rw [talk_rise_l0]) (Ev.neg (by omega) (Ev.now _))
theorem place_some (a n : Int) : talk_place a n = some (decide (0 ≤ a ∧ a < n)) := by
  unfold talk_place
  by_cases h : 0 ≤ a <;> simp [h]
theorem MayT.iff {m : T54} {n : Int} (c : Prop) (h : c ↔ ((m.f0 = 1 ∧ m.f5 = []) ∨ (m.f0 = 2 ∧ m.f5.length ≤ 5))) :
    MayT m n ↔ c ∧ (0 ≤ m.f1 ∧ m.f1 < n) ∧ (0 ≤ m.f2 ∧ m.f2 < n) ∧ m.f1 ≠ m.f2 ∧ MayV n m.f3 ∧ MayV n m.f4 ∧ BelowV m.f4 m.f3 ∧ Rise n m.f5 := by unfold MayT; rw [h]
theorem tMay_ev (m : T54) (n : Int) : Ev (fun k => talk_May k m n) (decide (MayT m n)) := by
  unfold talk_May
  simp only [place_some, Option.bind_some]
  have tail : ∀ lim : Int, lim = 0 ∨ lim = 5 → Ev (fun k => (if decide (0 ≤ m.f1 ∧ m.f1 < n) = true then (if decide (0 ≤ m.f2 ∧ m.f2 < n) = true then (if ¬ m.f1 = m.f2 then ((vector_May k m.f3 n).bind fun t16 => (if t16 = true then ((vector_May k m.f4 n).bind fun t21 => (if t21 = true then ((vector_Below k m.f4 m.f3).bind fun t26 => (if t26 = true then (if (m.f5.length : Int) ≤ lim then ((talk_rise k m.f5 n).bind fun t32 => some t32) else some false) else some false)) else some false)) else some false)) else some false) else some false) else some false))
      (decide (((m.f5.length : Int) ≤ lim) ∧ (0 ≤ m.f1 ∧ m.f1 < n) ∧ (0 ≤ m.f2 ∧ m.f2 < n) ∧ m.f1 ≠ m.f2 ∧ MayV n m.f3 ∧ MayV n m.f4 ∧ BelowV m.f4 m.f3 ∧ Rise n m.f5)) := fun lim hlim => by
    by_cases h1 : 0 ≤ m.f1 ∧ m.f1 < n
    case neg => exact Ev.neg (by simpa using h1) ((Ev.now _).is (decide_eq_false (fun h => h1 h.2.1)).symm)
    refine Ev.pos (decide_eq_true h1) ?_
    by_cases h2 : 0 ≤ m.f2 ∧ m.f2 < n
    case neg => exact Ev.neg (by simpa using h2) ((Ev.now _).is (decide_eq_false (fun h => h2 h.2.2.1)).symm)
    refine Ev.pos (decide_eq_true h2) ?_
    by_cases h3 : m.f1 = m.f2
    case pos => exact Ev.neg (fun h => h h3) ((Ev.now _).is (decide_eq_false (fun h => h.2.2.2.1 h3)).symm)
    refine Ev.pos h3 (Ev.bind (vMay_ev _ _) ?_)
    by_cases h4 : MayV n m.f3
    case neg => exact Ev.neg (by simpa using h4) ((Ev.now _).is (decide_eq_false (fun h => h4 h.2.2.2.2.1)).symm)
    refine Ev.pos (decide_eq_true h4) (Ev.bind (vMay_ev _ _) ?_)
    by_cases h5 : MayV n m.f4
    case neg => exact Ev.neg (by simpa using h5) ((Ev.now _).is (decide_eq_false (fun h => h5 h.2.2.2.2.2.1)).symm)
    refine Ev.pos (decide_eq_true h5) (Ev.bind (vBelow_ev _ _ (by have := h5.len; omega)) ?_)
    by_cases h6 : BelowV m.f4 m.f3
    case neg => exact Ev.neg (by simpa using h6) ((Ev.now _).is (decide_eq_false (fun h => h6 h.2.2.2.2.2.2.1)).symm)
    refine Ev.pos (decide_eq_true h6) ?_
    by_cases h7 : (m.f5.length : Int) ≤ lim
    case neg => exact Ev.neg h7 ((Ev.now _).is (decide_eq_false (fun h => h7 h.1)).symm)
    refine Ev.pos h7 (Ev.bind (rise_ev (by omega) n) ((Ev.now _).is ?_))
    exact dec_iff ⟨fun h => ⟨h7, h1, h2, h3, h4, h5, h6, h⟩, fun h => h.2.2.2.2.2.2.2⟩
  by_cases k1 : m.f0 = 1
  · refine Ev.pos k1 (Ev.bind (tail 0 (.inl rfl)) ((Ev.now _).is (dec_iff (MayT.iff _ ?_).symm)))
    rw [← List.length_eq_zero_iff]; omega
  refine Ev.neg k1 ?_
  by_cases k2 : m.f0 = 2
  · refine Ev.pos k2 (Ev.bind (tail 5 (.inr rfl)) ((Ev.now _).is (dec_iff (MayT.iff _ ?_).symm)))
    omega
  · refine Ev.neg k2 ((Ev.now _).is (decide_eq_false ?_).symm)
    rintro ⟨⟨h, _⟩ | ⟨h, _⟩, _⟩
    · exact k1 h
    · exact k2 h
theorem rrise_ev (rs : List T39) (n : Int) : Ev (fun k => grapevineref20_records k rs n) (decide (rs.length ≤ 5 ∧ Rise n rs)) := by
  unfold grapevineref20_records
  by_cases hl : rs.length ≤ 5
  case neg =>
    refine Ev.bind (b := Sum.inr ()) ?_ ((Ev.now _).is ?_)
    · refine Ev.step (fun k => by rw [grapevineref20_records_l0]) ?_
      exact Ev.bind (b := false) (Ev.pos (by omega) ((Ev.now _).is (decide_eq_false (by omega)))) (Ev.neg (by simp) (Ev.now _))
    rw [decide_eq_false (by omega), decide_eq_false (fun h => hl h.1)]
  have one : ∀ i, i < rs.length → Ev (fun k => (if 0 ≤ (i : Int) ∧ (i : Int) < (rs.length : Int) then ((grapevineref4_May (rs.getD i z39)).bind fun t13 => (if (!t13) = true then some true else (if 0 ≤ (i : Int) ∧ (i : Int) < (rs.length : Int) then (if ((rs.getD i z39).f0) ≥ n then some true else (if (i : Int) > 0 then (if 0 ≤ (IntKind.i64.wrap ((i : Int) - 1)) ∧ (IntKind.i64.wrap ((i : Int) - 1)) < (rs.length : Int) then (if 0 ≤ (i : Int) ∧ (i : Int) < (rs.length : Int) then ((grapevineref4_Before (⟨(rs.getD (IntKind.i64.wrap ((i : Int) - 1)).toNat z39).f0, (rs.getD (IntKind.i64.wrap ((i : Int) - 1)).toNat z39).f1⟩ : T35) (⟨(rs.getD i z39).f0, (rs.getD i z39).f1⟩ : T35)).bind fun t23 => some (!t23)) else none) else none) else some false)) else none))) else none)) (decide (¬ RAt n i (rs.getD i z39) (rs.getD (i - 1) z39))) := fun i hi => by
    refine (Ev.now _).congr fun k => ?_
    rw [i64w (by omega), show ((i : Int) - 1).toNat = i - 1 by omega, rMay_some, rBefore_some, if_pos (by omega)]
    generalize rs.getD i z39 = x
    generalize rs.getD (i - 1) z39 = y
    by_cases h1 : Mayr x
    case neg => simp [h1, RAt]
    simp only [h1, decide_true, Option.bind_some, Bool.not_true, Bool.false_eq_true, if_false]
    rw [if_pos (by omega)]
    by_cases h2 : x.f0 < n
    case neg => rw [if_pos (by omega)]; simp [h1, h2, RAt]
    rw [if_neg (by omega)]
    by_cases h3 : 0 < i
    · rw [if_pos (by omega), if_pos (by omega), if_pos (by omega)]
      simp [h1, h2, h3, RAt]
    · rw [if_neg (by omega)]
      simp [h1, h2, h3, RAt]
  refine Ev.bind (Ev.all (F := fun k i => grapevineref20_records_l0 rs n k i) rs.length (fun i => RAt n i (rs.getD i z39) (rs.getD (i - 1) z39)) (by omega) (fun i hi hp r H => ?_) (fun i hi hp => ?_) ?_) ?_
  · refine Ev.step (fun k => by rw [grapevineref20_records_l0, step64 i (by omega), Int.toNat_natCast]) ?_
    exact Ev.bind (b := true) (Ev.pos (by omega) ((Ev.now _).is (decide_eq_true (by omega)))) (Ev.pos rfl (Ev.bind (one i hi) (Ev.neg (by rw [decide_eq_false (p := ¬ _) (fun h => h hp)]; simp) H)))
  · refine Ev.step (fun k => by rw [grapevineref20_records_l0, step64 i (by omega), Int.toNat_natCast]) ?_
    exact Ev.bind (b := true) (Ev.pos (by omega) ((Ev.now _).is (decide_eq_true (by omega)))) (Ev.pos rfl (Ev.bind (one i hi) (Ev.pos (decide_eq_true (p := ¬ _) hp) (Ev.now _))))
  · refine Ev.step (fun k => by rw [grapevineref20_records_l0]) ?_
    exact Ev.bind (b := false) (Ev.neg (by omega) (Ev.now _)) (Ev.neg (by simp) (Ev.now _))
  · by_cases hr : Rise n rs
    · have hr' : ∀ i, i < rs.length → RAt n i (rs.getD i z39) (rs.getD (i - 1) z39) := hr
      rw [if_pos hr']
      refine (Ev.now _).is ?_
      rw [decide_eq_true (by omega), decide_eq_true ⟨hl, hr⟩]
    · have hr' : ¬ ∀ i, i < rs.length → RAt n i (rs.getD i z39) (rs.getD (i - 1) z39) := hr
      rw [if_neg hr']
      exact (Ev.now _).is (decide_eq_false (fun h => hr h.2)).symm
theorem rtMay_ev (m : T54) (n : Int) : Ev (fun k => grapevineref20_May k m n) (decide (MayT m n)) := by
  unfold grapevineref20_May
  by_cases h0 : (m.f0 = 1 ∨ m.f0 = 2) ∧ (0 ≤ m.f1 ∧ m.f1 < n) ∧ (0 ≤ m.f2 ∧ m.f2 < n) ∧ m.f1 ≠ m.f2
  case neg =>
    refine Ev.bind (b := true) ((Ev.now _).congr fun k => ?_) (Ev.pos rfl ((Ev.now _).is (decide_eq_false (fun h => h0 ⟨?_, h.2.1, h.2.2.1, h.2.2.2.1⟩)).symm))
    · by_cases a1 : m.f1 < 0
      · simp [a1]
      by_cases a2 : m.f2 < 0
      · simp [a1, a2]
      by_cases a3 : m.f1 ≥ n
      · simp [a1, a2, a3]
      by_cases a4 : m.f2 ≥ n
      · simp [a1, a2, a3, a4]
      by_cases a5 : m.f1 = m.f2
      · simp [a1, a2, a3, a4, a5]
      have : ¬ (m.f0 = 1 ∨ m.f0 = 2) := fun h => h0 ⟨h, by omega, by omega, a5⟩
      rw [if_pos (fun h => this (.inl h)), if_pos (fun h => this (.inr h))]
    · rcases h.1 with h | h
      · exact .inl h.1
      · exact .inr h.1
  obtain ⟨hk, h1, h2, h3⟩ := h0
  refine Ev.bind (b := false) ((Ev.now _).congr fun k => ?_) (Ev.neg (by simp) ?_)
  · have e : (if m.f1 < 0 then some true else (if m.f2 < 0 then some true else (if m.f1 ≥ n then some true else (if m.f2 ≥ n then some true else some (m.f1 == m.f2))))) = some false := by
      rw [if_neg (by omega), if_neg (by omega), if_neg (by omega), if_neg (by omega), beq_false_of_ne h3]
    rw [e]
    rcases hk with hk | hk
    · rw [if_neg (fun h => h hk)]
    · rw [if_pos (by omega), if_neg (fun h => h hk)]
  by_cases h4 : MayV n m.f3
  case neg => exact Ev.bind (b := true) (Ev.bind (rvMay_ev _ _) (Ev.pos (by simp [h4]) (Ev.now _))) (Ev.pos rfl ((Ev.now _).is (decide_eq_false (fun h => h4 h.2.2.2.2.1)).symm))
  by_cases h5 : MayV n m.f4
  case neg => exact Ev.bind (b := true) (Ev.bind (rvMay_ev _ _) (Ev.neg (by simp [h4]) (Ev.bind (rvMay_ev _ _) (Ev.pos (by simp [h5]) (Ev.now _))))) (Ev.pos rfl ((Ev.now _).is (decide_eq_false (fun h => h5 h.2.2.2.2.2.1)).symm))
  refine Ev.bind (Ev.bind (rvMay_ev _ _) (Ev.neg (by simp [h4]) (Ev.bind (rvMay_ev _ _) (Ev.neg (by simp [h5]) (Ev.bind (rvBelow_ev _ _ (by have := h5.len; omega)) (Ev.now _)))))) ?_
  by_cases h6 : BelowV m.f4 m.f3
  case neg => exact Ev.pos (by simp [h6]) ((Ev.now _).is (decide_eq_false (fun h => h6 h.2.2.2.2.2.2.1)).symm)
  refine Ev.neg (by simp [h6]) ?_
  refine Ev.bind (b := decide (MayT m n)) (Ev.bind (rrise_ev _ _) ?_) (Ev.now _)
  by_cases h7 : m.f5.length ≤ 5 ∧ Rise n m.f5
  case neg =>
    refine Ev.neg (by simpa using h7) ((Ev.now _).is (decide_eq_false (fun h => h7 ⟨?_, h.2.2.2.2.2.2.2⟩)).symm)
    rcases h.1 with ⟨_, h⟩ | ⟨_, h⟩
    · rw [h]; simp
    · exact h
  refine Ev.pos (decide_eq_true h7) ?_
  by_cases k2 : m.f0 = 2
  · refine Ev.pos k2 ((Ev.now _).is (decide_eq_true ?_).symm)
    exact ⟨.inr ⟨k2, h7.1⟩, h1, h2, h3, h4, h5, h6, h7.2⟩
  · have k1 : m.f0 = 1 := by omega
    have e0 : ((m.f5.length : Int) == 0) = decide (m.f5 = []) := by rw [Bool.eq_iff_iff]; simp only [beq_iff_eq, decide_eq_true_eq]; rw [← List.length_eq_zero_iff]; omega
    refine Ev.neg k2 ((Ev.now _).is ?_)
    rw [e0]
    refine dec_iff ⟨fun h => ⟨.inl ⟨k1, h⟩, h1, h2, h3, h4, h5, h6, h7.2⟩, fun h => ?_⟩
    rcases h.1 with ⟨_, h⟩ | ⟨h, _⟩
    · exact h
    · exact absurd h k2
end Go.Proofs.YtfocilpnbiciaaaDoor.Pure
