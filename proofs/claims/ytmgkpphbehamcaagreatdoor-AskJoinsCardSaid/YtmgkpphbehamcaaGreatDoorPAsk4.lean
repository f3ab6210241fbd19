
import Derived.Test.YtmgkpphbehamcaaGreatDoorF0
import Derived.Test.YtmgkpphbehamcaaGreatDoorPAsk3
namespace Go.Proofs.YtmgkpphbehamcaaGreatDoor.Pure
open Go Go.Gg Go.Gp Gf
set_option linter.unusedVariables false
set_option linter.unusedSimpArgs false
theorem good_no {d : Nat} {x : T26} (h : shapeB x = false) : goodN (d + 1) x = false := by simp only [goodN, h, Bool.false_and]
def mayB (d : Nat) (x : T26) : Bool := decide (deepN d x ≤ 6) && (decide (termsN d x ≤ 16) && goodN d x)
theorem askMay_ev {d : Nat} (hd : d < 1000) {x : T26} (h : SmallN d x) (hc : cntN d x ≤ 1000) : Ev (fun k => ask_May k x) (mayB d x) := by
 unfold ask_May mayB; refine Ev.bind ?_ (Ev.now _); refine Ev.bind (Deep_ev d x hd h) ?_; refine Ev.ite (fun a => ?_) (fun a => (Ev.now _).is (by rw [decide_eq_false a]; rfl)); refine Ev.bind (Terms_ev d x h hc) ?_; refine Ev.ite (fun b => ?_) (fun b => (Ev.now _).is (by rw [decide_eq_false b]; simp)); exact Ev.bind (good_ev d x h) ((Ev.now _).is (by rw [decide_eq_true a, decide_eq_true b]; simp))
end Go.Proofs.YtmgkpphbehamcaaGreatDoor.Pure
