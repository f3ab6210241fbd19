/- States in plain words: the program's join of two. -/
import Derived.Test.YtbifgnloeopdaaaDoorF2
import Derived.Test.YtbifgnloeopdaaaDoorPSt5
namespace Go.Proofs.YtbifgnloeopdaaaDoor.Pure
open Go Go.Gg Go.Gp Gf
set_option linter.unusedVariables false
set_option linter.unusedSimpArgs false
theorem Join_ev {n : Nat} {s t : T46} (hs : Good n s) (ht : Good n t) (h1 : 1 ≤ n) (hn : n ≤ 8) : Ev (fun k => state_Join_41 k s t) (some (joinS s t)) := by
 unfold state_Join_41; rw [Copy_eq hs hn]; have e1 := hs.v.1; have e2 := ht.v.1; refine Ev.bind (b := Sum.inr (joinS s t)) ?_ (Ev.now _); refine Ev.name fun c hc => ?_
 rw [hc]; refine Ev.neg (by omega) ?_; refine Ev.bind (join2 hs.v ht.v hn) ?_; refine Ev.bind (copy_loop ht ⟨zip mx s.f0 t.f0, s.f1, s.f2⟩ (F := fun k seen y => state_Join_41_l0 t k seen y) (fun k seen y => by rw [state_Join_41_l0])) ?_; obtain ⟨c, hR⟩ := Raise_gen (s := ⟨zip mx s.f0 t.f0, s.f1, forr s.f2 t.f2⟩) (Vec.join hs.v ht.v) hs.w h1 hn (join_supp hs ht) ht.w; exact Ev.bind hR (Ev.now _)
end Go.Proofs.YtbifgnloeopdaaaDoor.Pure
