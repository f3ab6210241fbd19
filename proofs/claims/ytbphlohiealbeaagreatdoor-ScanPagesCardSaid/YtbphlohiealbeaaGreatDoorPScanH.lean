/- What the document finds. -/
import Derived.Test.YtbphlohiealbeaaGreatDoorF9
import Derived.Test.YtbphlohiealbeaaGreatDoorPScanR
import Derived.Test.YtbphlohiealbeaaGreatDoorPDeemR
namespace Go.Proofs.YtbphlohiealbeaaGreatDoor.Pure
open Go Go.Gg Go.Gp Gf
set_option linter.unusedVariables false
set_option linter.unusedSimpArgs false
theorem rHits_l0_ev {q : T33} (hm : mayQ 13 q = true) (s1 : SmallN 13 (askOf q)) (s2 : cntN 13 (askOf q) ≤ 1000) (l : List T31) (hl : l.length ≤ 1000000) (hr : ∀ r ∈ l, r.f4.size ≤ 9223372036854775807) :
  Ev (fun k => grapevineref16_Hits_l0 q l k [] 0) (l.filter (hitB 13 q)) := by
 have := Ev.count (F := fun k (a : List T31) i => grapevineref16_Hits_l0 q l k a i) (r := l.filter (hitB 13 q)) (fun i => (l.take i).filter (hitB 13 q)) l.length (fun i hi r H => by
  obtain ⟨x, hx⟩ : ∃ x, x = l.getD i z31 := ⟨_, rfl⟩; have hxm : x ∈ l := by rw [hx, getD_eq l z31 hi]; exact List.getElem_mem _
  have htake : l.take (i + 1) = l.take i ++ [x] := by rw [take_getD l z31 hi, ← hx]
  have hlen : ((l.take i).filter (hitB 13 q)).length ≤ i := Nat.le_trans (List.length_filter_le _ _) (by rw [List.length_take]; omega); have hi64 : IntKind.i64.wrap ((i : Int) + 1) = ((i + 1 : Nat) : Int) := by rw [i64w (by omega)]; omega
  refine Ev.step (fun k => by rw [grapevineref16_Hits_l0]) ?_; rw [Int.toNat_natCast, ← hx, hi64]; rw [htake, List.filter_append] at H; refine Ev.pos (by omega) ?_; refine Ev.bind (b := earlyB x (afterOf q)) ?_ ?_
  ·unfold earlyB; by_cases c : q.f6 = 0
   ·have e0 : decide ((afterOf q).f1 > 0) = false := decide_eq_false (by show ¬ q.f6 > 0; omega); rw [e0, Bool.false_and]; exact Ev.neg (fun h => h c) (Ev.now _)
   ·have e0 : decide ((afterOf q).f1 > 0) = true := decide_eq_true (mayQ_seq hm c); rw [e0, Bool.true_and, rLess_some, show (⟨q.f5, q.f6, q.f7, q.f8, q.f9⟩ : T31) = afterOf q from rfl]; refine Ev.pos c (Ev.pos (by omega) ?_); refine Ev.name fun t ht => ?_
    rw [ht]
    cases hlt : ltr x (afterOf q) with
    | true => exact Ev.pos rfl (Ev.now _)
    | false =>
     refine Ev.neg Bool.false_ne_true (Ev.pos (by omega) ?_); by_cases e : (⟨x.f0, x.f1⟩ : T27) = ⟨(afterOf q).f0, (afterOf q).f1⟩
     ·rw [decide_eq_true e]; exact Ev.pos e (Ev.pos (by omega) ((Ev.now _).is (by simp only [Bool.true_and, Bool.false_or]; rfl)))
     ·rw [decide_eq_false e]; exact Ev.neg e ((Ev.now _).is (by simp))
  ·refine Ev.bind (b := hitB 13 q x) ?_ ?_
   ·unfold hitB
    cases he : earlyB x (afterOf q) with
    | true => exact Ev.neg (by simp) ((Ev.now _).is (by simp))
    | false => exact Ev.pos rfl (Ev.pos (by omega) (Ev.bind (b := holdsD 13 (askOf q) x) (rHolds_ev (d := 13) (by decide) s1 s2 (hr x hxm)) ((Ev.now _).is (by simp))))
   ·cases hh : hitB 13 q x with
    | false =>
     refine Ev.neg Bool.false_ne_true ?_; simpa [hh] using H
    | true =>
     refine Ev.pos rfl (Ev.pos (by omega) (Ev.pos (by simp; omega) ?_)); simpa [hh] using H) (by
  refine Ev.step (fun k => by rw [grapevineref16_Hits_l0]) ?_; exact Ev.neg (by omega) ((Ev.now _).is (by rw [List.take_length])))
 simpa using this
theorem rHits_ev {q : T33} (s1 : SmallN 13 (askOf q)) (s2 : cntN 13 (askOf q) ≤ 1000) (l : List T31) (hl : l.length ≤ 1000000) (hr : ∀ r ∈ l, r.f4.size ≤ 9223372036854775807) :
  ∃ u, (mayQ 13 q = true → Srt ltr u ∧ SE ltr (l.filter (hitB 13 q)) u) ∧ (mayQ 13 q = false → u = []) ∧ Ev (fun k => grapevineref16_Hits k q l) u := by
 have hME := rMayQuery_ev (d := 13) (by decide) (q := q) s1 s2
 cases hm : mayQ 13 q with
 | false =>
  refine ⟨[], by simp, fun _ => rfl, ?_⟩; unfold grapevineref16_Hits; exact Ev.bind (hME.is hm) (Ev.pos rfl (Ev.now _))
 | true =>
  have hfl : (l.filter (hitB 13 q)).length ≤ 1000000 := Nat.le_trans (List.length_filter_le _ _) hl; obtain ⟨u, hu, hse, hE⟩ := rSort_ev (l.filter (hitB 13 q)) (by omega); refine ⟨u, fun _ => ⟨hu, hse⟩, by simp, ?_⟩; unfold grapevineref16_Hits; exact Ev.bind (hME.is hm) (Ev.neg (by simp) (Ev.bind (rHits_l0_ev hm s1 s2 l hl hr) (Ev.bind hE (Ev.now _))))
end Go.Proofs.YtbphlohiealbeaaGreatDoor.Pure
