/- SegmentReads: what the program reads is what the document reads. -/
import Derived.Test.YtfocilpnbiciaaaDoorPSeg3
import Derived.Test.YtfocilpnbiciaaaDoorLSegmentReads
namespace Go.Proofs.YtfocilpnbiciaaaDoor.Pure
open Go Go.Gg Go.Gp Gf
set_option linter.unusedVariables false
set_option linter.unusedSimpArgs false
theorem SegmentReads : SegmentReads_Pure := by
  intro l n hl hn
  obtain ⟨hl1, hl2⟩ := hl
  have hb := Bytes.of hl2
  refine Ev.rounds (f := fun k => grapevinelaw8_SegmentReads k l n) ?_
  unfold grapevinelaw8_SegmentReads
  refine Ev.ite (fun h => Ev.bind awake8_ev (Ev.now _)) (fun h => ?_)
  refine Ev.pos (by omega) (Ev.bind (sRead_ev hb (by omega) n) (Ev.bind (rsRead_ev hb (by omega) n) ?_))
  have hs : Small (segS l n).1 := Small.of (n := n) (by have := segR_len l n (l.length + 1) [] 0; simp at this; unfold segS; omega) (segR_may l n _ _ _ (by simp))
  refine Ev.bind (b := true) (Ev.bind ((SameEntries_ev hs).is (decide_eq_true rfl)) (Ev.pos rfl (Ev.pos rfl (Ev.bind ((KeptBytes_ev l l (by omega)).is (decide_eq_true rfl)) (Ev.now _))))) ?_
  refine Ev.bind (OverEntries_ev hs) ?_
  refine Ev.bind (b := true) (Ev.pos rfl (Ev.bind ((KeptBytes_ev l l (by omega)).is (decide_eq_true rfl)) (Ev.pos rfl (Ev.bind awake8_ev (Ev.now _))))) (Ev.now _)
end Go.Proofs.YtfocilpnbiciaaaDoor.Pure
