/- The plain law of TokensTell. -/
import Derived.Test.YtjmhhmljldjmjaaDoorLTokensTell
import Derived.Test.YtjmhhmljldjmjaaDoorPTok2
namespace Go.Proofs.YtjmhhmljldjmjaaDoor.Pure
open Go Go.Gg Go.Gp Gf
theorem TokensTell : TokensTell_Pure := by
  intro a0 hs0
  have hs : a0.size ≤ 9223372036854775807 := Nat.le_trans hs0 (by decide)
  apply Ev.rounds
  unfold grapevinelaw1_TokensTell
  refine Ev.ite (fun h => Ev.bind awake_ev (Ev.now _)) (fun h => ?_)
  have h300 : a0.size ≤ 300 := by omega
  have hl := OfD_len a0
  refine Ev.bind (Of_ev hs) ?_
  refine Ev.bind (b := true) ?_ ?_
  · refine Ev.bind (rOf_ev hs) ?_
    refine Ev.bind (SameWords_ev _ _ (by omega)) ?_
    refine Ev.pos (by simp) ?_
    rw [May_eq hs, rMay_eq hs]
    refine Ev.name fun v hv => ?_
    refine Ev.name fun w hw => ?_
    refine Ev.pos (by rw [hv, hw]; simp) ?_
    rw [Norm_eq (by omega)]
    refine Ev.name fun x hx => ?_
    rw [hx]
    refine Ev.bind (rNorm_norm (by omega)) ?_
    refine Ev.pos (by simp) ?_
    rw [One_ev hs]
    refine Ev.name fun y hy => ?_
    rw [hy]
    refine Ev.bind (rOne_ev (by omega)) ?_
    exact (Ev.now _).is (by simp)
  · refine Ev.bind (OverWords_ev _ (by omega)) ?_
    refine Ev.bind (b := true) ?_ (Ev.now _)
    refine Ev.pos rfl ?_
    refine Ev.bind (Of_ev hs) ?_
    refine Ev.bind (rOf_ev hs) ?_
    refine Ev.bind (SameWords_ev _ _ (by omega)) ?_
    refine Ev.pos (by simp) ?_
    exact Ev.bind awake_ev (Ev.now _)
end Go.Proofs.YtjmhhmljldjmjaaDoor.Pure
