/- Which questions may be: the document's answer is the program's. -/
import Derived.Test.YtbphlohiealbeaaDoorF0
import Derived.Test.YtbphlohiealbeaaDoorF3
import Derived.Test.YtbphlohiealbeaaDoorF4
import Derived.Test.YtbphlohiealbeaaDoorF5
import Derived.Test.YtbphlohiealbeaaDoorPAsk3
namespace Go.Proofs.YtbphlohiealbeaaDoor.Pure
open Go Go.Gg Go.Gp Gf
set_option linter.unusedVariables false
set_option linter.unusedSimpArgs false

theorem form_eq (k : Nat) (x : T25) : grapevineref14_form (k + 1) x =
    if x.f0 = 1 ∨ x.f0 = 2 then (if x.f1 = 0 then (if (x.f3.length : Int) = 0 then grapevineref14_words k x.f2 1 1 else some false) else some false)
    else if x.f0 = 3 then (if x.f1 = 0 then (if (x.f3.length : Int) = 0 then grapevineref14_words k x.f2 1 16 else some false) else some false)
    else if x.f0 = 4 then (if (x.f2.length : Int) = 0 then (if (x.f3.length : Int) = 0 then (if x.f1 ≥ 0 then some (decide (x.f1 < 8)) else some false) else some false) else some false)
    else if x.f0 = 5 ∨ x.f0 = 6 then (if (x.f2.length : Int) = 0 then (if (x.f3.length : Int) = 0 then (if x.f1 ≥ 0 then some (decide (x.f1 ≤ 1099511627776)) else some false) else some false) else some false)
    else if x.f0 = 9 then (if ¬ (x.f3.length : Int) = 1 then some false else ((grapevineref14_form_l0 x (grapevineref14_form k) k 0).bind fun os => match os with | Sum.inl r => some r | Sum.inr _ => (if x.f1 = 0 then some ((x.f2.length : Int) == 0) else some false)))
    else if x.f0 = 7 ∨ x.f0 = 8 then (if (x.f3.length : Int) < 2 then some false else ((grapevineref14_form_l0 x (grapevineref14_form k) k 0).bind fun os => match os with | Sum.inl r => some r | Sum.inr _ => (if x.f1 = 0 then some ((x.f2.length : Int) == 0) else some false)))
    else some false := by
  rw [grapevineref14_form]
  simp only [form_l1', form_l2', form_l3', form_l4', form_l5', form_l6', form_l7', form_l8', form_l9', form_l10', form_l11']
  have id1 : ∀ {α : Type} (o : Option α), (o.bind fun s => some s) = o := fun o => by cases o <;> rfl
  simp only [id1]
  by_cases h : x.f0 = 1 ∨ x.f0 = 2 ∨ x.f0 = 3 ∨ x.f0 = 4 ∨ x.f0 = 5 ∨ x.f0 = 6 ∨ x.f0 = 7 ∨ x.f0 = 8 ∨ x.f0 = 9
  · rcases h with h | h | h | h | h | h | h | h | h <;> simp only [h] <;> rfl
  · simp only [not_or] at h
    obtain ⟨h1, h2, h3, h4, h5, h6, h7, h8, h9⟩ := h
    simp only [h1, h2, h3, h4, h5, h6, h7, h8, h9, if_false, or_self]
theorem good_no {d : Nat} {x : T25} (h : shapeB x = false) : goodN (d + 1) x = false := by simp only [goodN, h, Bool.false_and]
theorem good_words {d : Nat} {x : T25} (h : shapeB x = true) (h3 : x.f3.length = 0) : goodN (d + 1) x = x.f2.all wordOK := by
  simp only [goodN, h, Bool.true_and, List.eq_nil_of_length_eq_zero h3, List.all_nil, Bool.and_true]
theorem good_subs {d : Nat} {x : T25} (h : shapeB x = true) (h2 : x.f2.length = 0) : goodN (d + 1) x = x.f3.all (goodN d) := by
  simp only [goodN, h, Bool.true_and, List.eq_nil_of_length_eq_zero h2, List.all_nil]
theorem good_nil {d : Nat} {x : T25} (h : shapeB x = true) (h2 : x.f2.length = 0) (h3 : x.f3.length = 0) : goodN (d + 1) x = true := by
  rw [good_words h h3, List.eq_nil_of_length_eq_zero h2]; rfl
theorem form_ev : ∀ (d : Nat) (x : T25), SmallN d x → Ev (fun k => grapevineref14_form k x) (goodN d x)
  | 0, x, h => h.elim
  | d + 1, x, ⟨h1, h2, h3, h4⟩ => by
    refine Ev.step (fun k => form_eq k x) ?_
    have hW := fun hi => words_ev x.f2 (by omega) (fun w hw => by have := h2 w hw; omega) 1 hi
    have hF := form_loop x (goodN d) (by omega) x.f3.length 0 (fun k => grapevineref14_form k) (fun s hs => form_ev d s (h4 s hs)) (by omega)
    rw [List.drop_zero] at hF
    have no : shapeB x = false → ∀ {g : Nat → Option Bool}, Ev g false → Ev g (goodN (d + 1) x) := fun h _ hg => hg.is (good_no h).symm
    have tail : (x.f0 = 9 ∧ x.f3.length = 1 ∨ (x.f0 = 7 ∨ x.f0 = 8) ∧ 2 ≤ x.f3.length) → Ev (fun k => (grapevineref14_form_l0 x (grapevineref14_form k) k 0).bind fun os => match os with | Sum.inl r => some r | Sum.inr _ => (if x.f1 = 0 then some ((x.f2.length : Int) == 0) else some false)) (goodN (d + 1) x) := by
      intro hk
      have hF' : Ev (fun k => grapevineref14_form_l0 x (grapevineref14_form k) k 0) (if x.f3.all (goodN d) then Sum.inr () else Sum.inl false) := hF
      refine Ev.bind hF' ?_
      cases hall : x.f3.all (goodN d)
      · refine (Ev.now _).is ?_
        simp only [goodN, hall, Bool.and_false]
      · simp only [if_true]
        by_cases a : x.f1 = 0
        · by_cases b : x.f2.length = 0
          · refine Ev.pos a ((Ev.now _).is ?_)
            rw [good_subs (decide_eq_true (by omega)) b, hall, b]; rfl
          · refine Ev.pos a ((Ev.now _).is ?_)
            rw [good_no (decide_eq_false (by omega)), beq_eq_false_iff_ne]
            omega
        · exact Ev.neg a (no (decide_eq_false (by omega)) (Ev.now _))
    refine Ev.ite (fun c1 => ?_) (fun c1 => ?_)
    · by_cases a : x.f1 = 0
      · by_cases b : (x.f3.length : Int) = 0
        · refine Ev.pos a (Ev.pos b ((hW 1).is ?_))
          by_cases e : x.f2.length = 1
          · rw [good_words (decide_eq_true (by omega)) (by omega)]
            simp [e]
          · rw [good_no (decide_eq_false (by omega))]
            have : ¬ ((x.f2.length : Int) ≥ 1 ∧ (x.f2.length : Int) ≤ 1) := by omega
            rw [← Bool.decide_and, decide_eq_false this, Bool.and_false]
        · exact Ev.pos a (Ev.neg b (no (decide_eq_false (by omega)) (Ev.now _)))
      · exact Ev.neg a (no (decide_eq_false (by omega)) (Ev.now _))
    refine Ev.ite (fun c2 => ?_) (fun c2 => ?_)
    · by_cases a : x.f1 = 0
      · by_cases b : (x.f3.length : Int) = 0
        · refine Ev.pos a (Ev.pos b ((hW 16).is ?_))
          by_cases e : 1 ≤ x.f2.length ∧ x.f2.length ≤ 16
          · rw [good_words (decide_eq_true (by omega)) (by omega)]
            have : ((x.f2.length : Int) ≥ 1 ∧ (x.f2.length : Int) ≤ 16) := by omega
            rw [← Bool.decide_and, decide_eq_true this, Bool.and_true]
          · rw [good_no (decide_eq_false (by omega))]
            have : ¬ ((x.f2.length : Int) ≥ 1 ∧ (x.f2.length : Int) ≤ 16) := by omega
            rw [← Bool.decide_and, decide_eq_false this, Bool.and_false]
        · exact Ev.pos a (Ev.neg b (no (decide_eq_false (by omega)) (Ev.now _)))
      · exact Ev.neg a (no (decide_eq_false (by omega)) (Ev.now _))
    refine Ev.ite (fun c3 => ?_) (fun c3 => ?_)
    · by_cases a : (x.f2.length : Int) = 0
      · by_cases b : (x.f3.length : Int) = 0
        · by_cases e : x.f1 ≥ 0
          · refine Ev.pos a (Ev.pos b (Ev.pos e ((Ev.now _).is ?_)))
            by_cases u : x.f1 < 8
            · rw [good_nil (decide_eq_true (by omega)) (by omega) (by omega), decide_eq_true u]
            · rw [good_no (decide_eq_false (by omega)), decide_eq_false u]
          · exact Ev.pos a (Ev.pos b (Ev.neg e (no (decide_eq_false (by omega)) (Ev.now _))))
        · exact Ev.pos a (Ev.neg b (no (decide_eq_false (by omega)) (Ev.now _)))
      · exact Ev.neg a (no (decide_eq_false (by omega)) (Ev.now _))
    refine Ev.ite (fun c4 => ?_) (fun c4 => ?_)
    · by_cases a : (x.f2.length : Int) = 0
      · by_cases b : (x.f3.length : Int) = 0
        · by_cases e : x.f1 ≥ 0
          · refine Ev.pos a (Ev.pos b (Ev.pos e ((Ev.now _).is ?_)))
            by_cases u : x.f1 ≤ 1099511627776
            · rw [good_nil (decide_eq_true (by omega)) (by omega) (by omega), decide_eq_true u]
            · rw [good_no (decide_eq_false (by omega)), decide_eq_false u]
          · exact Ev.pos a (Ev.pos b (Ev.neg e (no (decide_eq_false (by omega)) (Ev.now _))))
        · exact Ev.pos a (Ev.neg b (no (decide_eq_false (by omega)) (Ev.now _)))
      · exact Ev.neg a (no (decide_eq_false (by omega)) (Ev.now _))
    refine Ev.ite (fun c5 => ?_) (fun c5 => ?_)
    · by_cases a : (x.f3.length : Int) = 1
      · exact Ev.neg (fun h => h a) (tail (by omega))
      · exact Ev.pos a (no (decide_eq_false (by omega)) (Ev.now _))
    refine Ev.ite (fun c6 => ?_) (fun c6 => ?_)
    · by_cases a : (x.f3.length : Int) < 2
      · exact Ev.pos a (no (decide_eq_false (by omega)) (Ev.now _))
      · exact Ev.neg a (tail (by omega))
    · exact no (decide_eq_false (by omega)) (Ev.now _)

def mayB (d : Nat) (x : T25) : Bool := decide (deepN d x ≤ 6) && (decide (termsN d x ≤ 16) && goodN d x)
theorem askMay_ev {d : Nat} (hd : d < 1000) {x : T25} (h : SmallN d x) (hc : cntN d x ≤ 1000) : Ev (fun k => ask_May k x) (mayB d x) := by
  unfold ask_May mayB
  refine Ev.bind ?_ (Ev.now _)
  refine Ev.bind (Deep_ev d x hd h) ?_
  refine Ev.ite (fun a => ?_) (fun a => (Ev.now _).is (by rw [decide_eq_false a]; rfl))
  refine Ev.bind (Terms_ev d x h hc) ?_
  refine Ev.ite (fun b => ?_) (fun b => (Ev.now _).is (by rw [decide_eq_false b]; simp))
  exact Ev.bind (good_ev d x h) ((Ev.now _).is (by rw [decide_eq_true a, decide_eq_true b]; simp))
theorem rAskMay_ev {d : Nat} (hd : d < 1000) {x : T25} (h : SmallN d x) (hc : cntN d x ≤ 1000) : Ev (fun k => grapevineref14_May k x) (mayB d x) := by
  unfold grapevineref14_May mayB
  simp only [rDeep_eq, rTerms_eq]
  refine Ev.bind ?_ (Ev.now _)
  refine Ev.bind (Deep_ev d x hd h) ?_
  refine Ev.ite (fun a => ?_) (fun a => (Ev.now _).is (by rw [decide_eq_false a]; rfl))
  refine Ev.bind (Terms_ev d x h hc) ?_
  refine Ev.ite (fun b => ?_) (fun b => (Ev.now _).is (by rw [decide_eq_false b]; simp))
  exact Ev.bind (form_ev d x h) ((Ev.now _).is (by rw [decide_eq_true a, decide_eq_true b]; simp))
end Go.Proofs.YtbphlohiealbeaaDoor.Pure
