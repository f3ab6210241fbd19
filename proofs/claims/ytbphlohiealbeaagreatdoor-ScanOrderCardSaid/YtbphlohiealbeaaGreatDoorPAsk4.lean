
/- Which questions may be: the document's answer is the program's. -/
import Derived.Test.YtbphlohiealbeaaGreatDoorF1
import Derived.Test.YtbphlohiealbeaaGreatDoorPAsk3
namespace Go.Proofs.YtbphlohiealbeaaGreatDoor.Pure
open Go Go.Gg Go.Gp Gf
set_option linter.unusedVariables false
set_option linter.unusedSimpArgs false

theorem good_no {d : Nat} {x : T25} (h : shapeB x = false) : goodN (d + 1) x = false := by simp only [goodN, h, Bool.false_and]
theorem good_words {d : Nat} {x : T25} (h : shapeB x = true) (h3 : x.f3.length = 0) : goodN (d + 1) x = x.f2.all wordOK := by
  simp only [goodN, h, Bool.true_and, List.eq_nil_of_length_eq_zero h3, List.all_nil, Bool.and_true]
theorem good_subs {d : Nat} {x : T25} (h : shapeB x = true) (h2 : x.f2.length = 0) : goodN (d + 1) x = x.f3.all (goodN d) := by
  simp only [goodN, h, Bool.true_and, List.eq_nil_of_length_eq_zero h2, List.all_nil]
theorem good_nil {d : Nat} {x : T25} (h : shapeB x = true) (h2 : x.f2.length = 0) (h3 : x.f3.length = 0) : goodN (d + 1) x = true := by
  rw [good_words h h3, List.eq_nil_of_length_eq_zero h2]; rfl
def mayB (d : Nat) (x : T25) : Bool := decide (deepN d x ≤ 6) && (decide (termsN d x ≤ 16) && goodN d x)
theorem askMay_ev {d : Nat} (hd : d < 1000) {x : T25} (h : SmallN d x) (hc : cntN d x ≤ 1000) : Ev (fun k => ask_May k x) (mayB d x) := by
  unfold ask_May mayB
  refine Ev.bind ?_ (Ev.now _)
  refine Ev.bind (Deep_ev d x hd h) ?_
  refine Ev.ite (fun a => ?_) (fun a => (Ev.now _).is (by rw [decide_eq_false a]; rfl))
  refine Ev.bind (Terms_ev d x h hc) ?_
  refine Ev.ite (fun b => ?_) (fun b => (Ev.now _).is (by rw [decide_eq_false b]; simp))
  exact Ev.bind (good_ev d x h) ((Ev.now _).is (by rw [decide_eq_true a, decide_eq_true b]; simp))
end Go.Proofs.YtbphlohiealbeaaGreatDoor.Pure
