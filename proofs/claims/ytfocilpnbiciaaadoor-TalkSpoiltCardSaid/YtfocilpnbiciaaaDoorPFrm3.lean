/- What the document lays of frames (out of the texts of an elder seat). -/
import Derived.Test.YtfocilpnbiciaaaDoorF7
import Derived.Test.YtfocilpnbiciaaaDoorPFrm2
namespace Go.Proofs.YtfocilpnbiciaaaDoor.Pure
open Go Go.Gg Go.Gp Gf
set_option linter.unusedVariables false
set_option linter.unusedSimpArgs false
theorem rFLay_ev (kind : Int) (body : List Int) (hs : Short body) : Ev (fun k => grapevineref6_Lay k kind body) (layS kind body) := by
  unfold grapevineref6_Lay layS
  refine Ev.bind (b := decide (kind < 1 ∨ kind > 255 ∨ (body.length : Int) > 65535)) ?_ ?_
  · refine Ev.ite (fun h => (Ev.now _).is (by simp [h])) (fun h => ?_)
    refine Ev.ite (fun h' => (Ev.now _).is (by simp [h'])) (fun h' => (Ev.now _).is (by simp [h, h']))
  · refine Ev.ite (fun h => ?_) (fun h => ?_)
    · rw [if_pos (by simpa using h)]; exact Ev.now _
    · have h : ¬ (kind < 1 ∨ kind > 255 ∨ (body.length : Int) > 65535) := by simpa using h
      rw [if_neg h]
      have e8 : shrK .i64 (body.length : Int) 8 = (body.length : Int) / 256 := shrI _ 8 (by omega) (by omega)
      have e0 : shrK .i64 (body.length : Int) 0 = (body.length : Int) := by have := shrI (body.length : Int) 0 (by omega) (by omega); simpa using this
      have hN : Ev (fun k => grapevineref4_Num k [71, IntKind.u8.wrap kind] (body.length : Int) 2) (headOf kind (body.length : Int)) := by
        unfold grapevineref4_Num
        refine Ev.bind (b := headOf kind (body.length : Int)) ?_ (Ev.now _)
        rw [i64w (x := 2 - 1) (by omega), show (2 : Int) - 1 = 1 by omega]
        refine Ev.step (fun k => by rw [grapevineref4_Num_l0]) ?_
        rw [i64w (x := 8 * 1) (by omega), i64w (x := 1 - 1) (by omega), show (8 : Int) * 1 = 8 by omega, show (1 : Int) - 1 = 0 by omega]
        refine Ev.pos (by omega) (Ev.pos (by omega) (Ev.pos (by simp) ?_))
        refine Ev.step (fun k => by rw [grapevineref4_Num_l0]) ?_
        rw [i64w (x := 8 * 0) (by omega), i64w (x := 0 - 1) (by omega), show (8 : Int) * 0 = 0 by omega, show (0 : Int) - 1 = -1 by omega]
        refine Ev.pos (by omega) (Ev.pos (by omega) (Ev.pos (by simp) ?_))
        refine Ev.step (fun k => by rw [grapevineref4_Num_l0]) ?_
        refine Ev.neg (by omega) ?_
        exact (Ev.now _).is (by simp [headOf, wrap_u8, e8, e0])
      refine Ev.bind hN ?_
      refine Ev.pos (by simp [headOf]; omega) ?_
      refine Ev.bind (rseal_ev _ (by simp [Short, maxLen, headOf]; omega)) ?_
      exact Ev.pos (by simp [headOf, len_be8]; omega) (Ev.now _)
end Go.Proofs.YtfocilpnbiciaaaDoor.Pure
