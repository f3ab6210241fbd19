/- States in plain words: the program's join of three, and of a list. -/
import Derived.Test.YtbifgnloeopdaaaDoorF0
import Derived.Test.YtbifgnloeopdaaaDoorF1
import Derived.Test.YtbifgnloeopdaaaDoorF2
import Derived.Test.YtbifgnloeopdaaaDoorF3
import Derived.Test.YtbifgnloeopdaaaDoorPSt6
namespace Go.Proofs.YtbifgnloeopdaaaDoor.Pure
open Go Go.Gg Go.Gp Gf
set_option linter.unusedVariables false
set_option linter.unusedSimpArgs false
theorem Join3_ev {n : Nat} {s t : T46} (hs : Told n s) (ht : Told n t) (h1 : 1 ≤ n) (hn : n ≤ 8) : Ev (fun k => state_Join_42 k s t) (some (joinS (joinS s t) s)) := by
 unfold state_Join_42; rw [Copy_eq hs.1 hn]; have e1 := hs.1.v.1; have e2 := ht.1.v.1; have hj := hs.join ht; have e3 := hj.1.v.1; refine Ev.bind (b := Sum.inr (joinS (joinS s t) s)) ?_ (Ev.now _); refine Ev.name fun c hc => ?_
 rw [hc]; refine Ev.neg (by omega) ?_; refine Ev.bind (join2 hs.1.v ht.1.v hn) ?_; refine Ev.bind (copy_loop ht.1 ⟨zip mx s.f0 t.f0, s.f1, s.f2⟩ (F := fun k seen y => state_Join_42_l0 t k seen y) (fun k seen y => by rw [state_Join_42_l0])) ?_; obtain ⟨c1, hR⟩ := Raise_gen (s := ⟨zip mx s.f0 t.f0, s.f1, forr s.f2 t.f2⟩) (Vec.join hs.1.v ht.1.v) hs.1.w h1 hn (join_supp hs.1 ht.1) ht.1.w; refine Ev.bind hR ?_; show Ev (fun k => if ¬ (s.f0.length : Int) = ((joinS s t).f0.length : Int) then some (Sum.inl none) else ((vector_Join k ([(joinS s t).f0, s.f0] : List (List Int))).bind fun t41 => ((state_Join_42_l1 s k [] (⟨t41, (joinS s t).f1, (joinS s t).f2⟩ : T46)).bind fun s49 => ((state_State_Raise k s49 s.f1).bind fun t61 => some (Sum.inr t61.2))))) _; refine Ev.neg (by omega) ?_; refine Ev.bind (join2 hj.1.v hs.1.v hn) ?_; refine Ev.bind (copy_loop hs.1 ⟨zip mx (joinS s t).f0 s.f0, (joinS s t).f1, (joinS s t).f2⟩ (F := fun k seen y => state_Join_42_l1 s k seen y) (fun k seen y => by rw [state_Join_42_l1])) ?_; obtain ⟨c2, hR2⟩ := Raise_gen (s := ⟨zip mx (joinS s t).f0 s.f0, (joinS s t).f1, forr (joinS s t).f2 s.f2⟩) (Vec.join hj.1.v hs.1.v) hj.1.w h1 hn (join_supp hj.1 hs.1) hs.1.w; exact Ev.bind hR2 (Ev.now _)
def joinAll : List T46 → T46
 | [] => z46
 | s :: l => l.foldl joinS s
theorem fold_told {n : Nat} : ∀ (l : List T46) (s : T46), Told n s → (∀ x ∈ l, Told n x) → Told n (l.foldl joinS s)
 | [], s, h, _ => h
 | x :: l, s, h, hl => fold_told l (joinS s x) (h.join (hl x (by simp))) fun y hy => hl y (by simp [hy])
theorem JoinL_loop {n : Nat} (h1 : 1 ≤ n) (hn : n ≤ 8) (l : List T46) (hl : l.length ≤ 1000) (ht : ∀ x ∈ l, Told n x) : ∀ (m i : Nat), i + m = l.length → 1 ≤ i → ∀ (a : Int) (b c d : Bool) (s : T46), Told n s →
  Ev (fun k => state_Join_l0 l k (i : Int) a b c d l s) (Sum.inr ((l.drop i).foldl joinS s)) := by
 intro m
 induction m with
 | zero =>
  intro i hi h0 a b c d s hs; refine Ev.step (fun k => by rw [state_Join_l0]) ?_; refine Ev.neg (by omega) ((Ev.now _).is ?_); rw [List.drop_eq_nil_of_le (by omega)]; rfl
 | succ m ih =>
  intro i hi h0 a b c d s hs; obtain ⟨x, hx⟩ : ∃ x, x = l.getD i z46 := ⟨_, rfl⟩; have hxm : x ∈ l := by rw [hx, getD_eq l z46 (by omega)]; exact List.getElem_mem _
  have hxt := ht x hxm; have e1 := hs.1.v.1; have e2 := hxt.1.v.1; refine Ev.step (fun k => by rw [state_Join_l0]) ?_; refine Ev.pos (by omega) (Ev.pos (by omega) ?_); rw [Int.toNat_natCast, ← hx]; refine Ev.bind (b := ((i : Int), true, true, false, false)) (Ev.pos (by omega) ((Ev.now _).is ?_)) ?_
  ·have : ((x.f0.length : Int) != (s.f0.length : Int)) = false := by rw [e1, e2]; simp
   rw [this, decide_eq_true (by omega)]
  refine Ev.neg Bool.false_ne_true (Ev.neg (by omega) ?_); refine Ev.bind (join2 hs.1.v hxt.1.v hn) ?_; refine Ev.bind (copy_loop hxt.1 ⟨zip mx s.f0 x.f0, s.f1, s.f2⟩ (F := fun k seen y => state_Join_l1 (i : Int) l k seen y) (fun k seen y => by rw [state_Join_l1, Int.toNat_natCast, ← hx])) ?_; obtain ⟨q, hR⟩ := Raise_gen (s := ⟨zip mx s.f0 x.f0, s.f1, forr s.f2 x.f2⟩) (Vec.join hs.1.v hxt.1.v) hs.1.w h1 hn (join_supp hs.1 hxt.1) hxt.1.w; refine Ev.bind hR ?_; have e64 : IntKind.i64.wrap ((i : Int) + 1) = ((i + 1 : Nat) : Int) := by rw [i64w (by omega)]; omega
  have ed : l.drop i = x :: l.drop (i + 1) := by rw [hx]; exact drop_getD l z46 (by omega)
  rw [e64, ed]; exact ih (i + 1) (by omega) (by omega) _ _ _ _ (joinS s x) (hs.join hxt)
theorem JoinL_ev {n : Nat} (h1 : 1 ≤ n) (hn : n ≤ 8) (l : List T46) (h0 : 0 < l.length) (hl : l.length ≤ 1000) (ht : ∀ x ∈ l, Told n x) : Ev (fun k => state_Join k l) (some (joinAll l)) := by
 cases l with
 | nil => simp at h0
 | cons s l =>
  have hs := ht s (by simp); unfold state_Join; refine Ev.bind (b := Sum.inr (joinAll (s :: l))) (Ev.pos (by omega) (Ev.pos (by omega) ?_)) (Ev.now _); have e : (⟨((s :: l).getD (0 : Int).toNat z46).f0, ((s :: l).getD (0 : Int).toNat z46).f1, ((s :: l).getD (0 : Int).toNat z46).f2⟩ : T46) = s := rfl; rw [e, Copy_eq hs.1 hn]; refine Ev.name fun c hc => ?_
  rw [hc]; have := JoinL_loop h1 hn (s :: l) hl ht l.length 1 (by simp; omega) (by omega) 0 false false false s hs; simpa [joinAll] using this
end Go.Proofs.YtbifgnloeopdaaaDoor.Pure
