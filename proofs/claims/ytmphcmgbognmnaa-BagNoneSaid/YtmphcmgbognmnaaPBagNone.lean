/- BagNone: of none each call says so. -/
import Derived.Test.YtmphcmgbognmnaaPBag
import Derived.Test.YtmphcmgbognmnaaLBagNone
namespace Go.Proofs.Ytmphcmgbognmnaa.Pure
open Go Go.Gg Go.Gp Gf
set_option linter.unusedVariables false
set_option linter.unusedSimpArgs false
theorem BagNone : BagNone_Pure := by
  intro n hn
  refine Ev.rounds (f := fun k => grapevinelaw22_BagNone k n) ?_
  unfold grapevinelaw22_BagNone
  have h0 : bag_Bag_at_17 n = some (-1) := rfl
  have h1 : bag_Bag_Take_16 n = some (0, [], false) := rfl
  have h2 : bag_Bag_Drop_20 n = some false := rfl
  have h3 : bag_Bag_Spoil_22 n n n = some false := rfl
  have h4 : bag_Bag_Twice n = some 1 := rfl
  have h5 : bag_Bag_Put_19 n [] = some 1 := rfl
  have h6 : bag_Bag_Len_18 = some 0 := rfl
  simp only [h1, h2, h3, h4, h5, h6, Option.bind_some]
  refine Ev.bind (b := true) (Ev.pos (by simp) (Ev.pos (by simp) (Ev.pos (by simp) (Ev.pos (by simp) (Ev.pos (by simp) (Ev.pos (by simp) (Ev.pos (by simp) (Ev.pos (by simp) ?_)))))))) (Ev.now _)
  refine Ev.bind (b := ([] : List Int)) ?_ (Ev.pos (by simp) (Ev.bind awake22_ev (Ev.now _)))
  unfold bag_Bag_To
  simp only [h6, Option.bind_some]
  refine Ev.bind (b := ()) ?_ (Ev.now _)
  exact Ev.step (g := fun _ => some ()) (fun k => by rw [bag_Bag_To_l0, if_neg (by omega)]) (Ev.now _)
end Go.Proofs.Ytmphcmgbognmnaa.Pure
