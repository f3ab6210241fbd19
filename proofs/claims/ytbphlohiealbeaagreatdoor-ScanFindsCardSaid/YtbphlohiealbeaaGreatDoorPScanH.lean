/- What the document finds. -/
import Derived.Test.YtbphlohiealbeaaGreatDoorF9
import Derived.Test.YtbphlohiealbeaaGreatDoorPScanD
import Derived.Test.YtbphlohiealbeaaGreatDoorPDeemR
import Derived.Test.YtbphlohiealbeaaGreatDoorF0
import Derived.Test.YtbphlohiealbeaaGreatDoorF4
import Derived.Test.YtbphlohiealbeaaGreatDoorLScanFinds
namespace Go.Proofs.YtbphlohiealbeaaGreatDoor.Pure
open Go Go.Gg Go.Gp Gf
set_option linter.unusedVariables false
set_option linter.unusedSimpArgs false
theorem rHits_l0_ev {q : T33} (hm : mayQ 13 q = true) (s1 : SmallN 13 (askOf q)) (s2 : cntN 13 (askOf q) ≤ 1000) (l : List T31) (hl : l.length ≤ 1000000) (hr : ∀ r ∈ l, r.f4.size ≤ 9223372036854775807) :
  Ev (fun k => grapevineref16_Hits_l0 q l k [] 0) (l.filter (hitB 13 q)) := by
 have := Ev.count (F := fun k (a : List T31) i => grapevineref16_Hits_l0 q l k a i) (r := l.filter (hitB 13 q)) (fun i => (l.take i).filter (hitB 13 q)) l.length (fun i hi r H => by
  obtain ⟨x, hx⟩ : ∃ x, x = l.getD i z31 := ⟨_, rfl⟩
  have hxm : x ∈ l := by rw [hx, getD_eq l z31 hi]; exact List.getElem_mem _
  have htake : l.take (i + 1) = l.take i ++ [x] := by rw [take_getD l z31 hi, ← hx]
  have hlen : ((l.take i).filter (hitB 13 q)).length ≤ i := Nat.le_trans (List.length_filter_le _ _) (by rw [List.length_take]; omega)
  have hi64 : IntKind.i64.wrap ((i : Int) + 1) = ((i + 1 : Nat) : Int) := by rw [i64w (by omega)]; omega
  refine Ev.step (fun k => by rw [grapevineref16_Hits_l0]) ?_
  rw [Int.toNat_natCast, ← hx, hi64]
  rw [htake, List.filter_append] at H
  refine Ev.pos (by omega) ?_
  refine Ev.bind (b := earlyB x (afterOf q)) ?_ ?_
  ·unfold earlyB
   by_cases c : q.f6 = 0
   ·have e0 : decide ((afterOf q).f1 > 0) = false := decide_eq_false (by show ¬ q.f6 > 0; omega)
    rw [e0, Bool.false_and]
    exact Ev.neg (fun h => h c) (Ev.now _)
   ·have e0 : decide ((afterOf q).f1 > 0) = true := decide_eq_true (mayQ_seq hm c)
    rw [e0, Bool.true_and, rLess_some, show (⟨q.f5, q.f6, q.f7, q.f8, q.f9⟩ : T31) = afterOf q from rfl]
    refine Ev.pos c (Ev.pos (by omega) ?_)
    refine Ev.name fun t ht => ?_
    rw [ht]
    cases hlt : ltr x (afterOf q) with
    | true => exact Ev.pos rfl (Ev.now _)
    | false =>
     refine Ev.neg Bool.false_ne_true (Ev.pos (by omega) ?_)
     by_cases e : (⟨x.f0, x.f1⟩ : T27) = ⟨(afterOf q).f0, (afterOf q).f1⟩
     ·rw [decide_eq_true e]
      exact Ev.pos e (Ev.pos (by omega) ((Ev.now _).is (by simp only [Bool.true_and, Bool.false_or]; rfl)))
     ·rw [decide_eq_false e]
      exact Ev.neg e ((Ev.now _).is (by simp))
  ·refine Ev.bind (b := hitB 13 q x) ?_ ?_
   ·unfold hitB
    cases he : earlyB x (afterOf q) with
    | true => exact Ev.neg (by simp) ((Ev.now _).is (by simp))
    | false => exact Ev.pos rfl (Ev.pos (by omega) (Ev.bind (b := holdsD 13 (askOf q) x) (rHolds_ev (d := 13) (by decide) s1 s2 (hr x hxm)) ((Ev.now _).is (by simp))))
   ·cases hh : hitB 13 q x with
    | false =>
     refine Ev.neg Bool.false_ne_true ?_
     simpa [hh] using H
    | true =>
     refine Ev.pos rfl (Ev.pos (by omega) (Ev.pos (by simp; omega) ?_))
     simpa [hh] using H) (by
  refine Ev.step (fun k => by rw [grapevineref16_Hits_l0]) ?_
  exact Ev.neg (by omega) ((Ev.now _).is (by rw [List.take_length])))
 simpa using this
theorem rHits_ev {q : T33} (s1 : SmallN 13 (askOf q)) (s2 : cntN 13 (askOf q) ≤ 1000) (l : List T31) (hl : l.length ≤ 1000000) (hr : ∀ r ∈ l, r.f4.size ≤ 9223372036854775807) :
  ∃ u, (mayQ 13 q = true → Srt ltr u ∧ SE ltr (l.filter (hitB 13 q)) u) ∧ (mayQ 13 q = false → u = []) ∧ Ev (fun k => grapevineref16_Hits k q l) u := by
 have hME := rMayQuery_ev (d := 13) (by decide) (q := q) s1 s2
 cases hm : mayQ 13 q with
 | false =>
  refine ⟨[], by simp, fun _ => rfl, ?_⟩
  unfold grapevineref16_Hits
  exact Ev.bind (hME.is hm) (Ev.pos rfl (Ev.now _))
 | true =>
  have hfl : (l.filter (hitB 13 q)).length ≤ 1000000 := Nat.le_trans (List.length_filter_le _ _) hl
  obtain ⟨u, hu, hse, hE⟩ := rSort_ev (l.filter (hitB 13 q)) (by omega)
  refine ⟨u, fun _ => ⟨hu, hse⟩, by simp, ?_⟩
  unfold grapevineref16_Hits
  exact Ev.bind (hME.is hm) (Ev.neg (by simp) (Ev.bind (rHits_l0_ev hm s1 s2 l hl hr) (Ev.bind hE (Ev.now _))))
end Go.Proofs.YtbphlohiealbeaaGreatDoor.Pure
namespace Go.Proofs.YtbphlohiealbeaaGreatDoor.Pure
open Go Go.Gg Go.Gp Gf
set_option linter.unusedVariables false
set_option linter.unusedSimpArgs false
theorem rFind_ev {q : T33} (s1 : SmallN 13 (askOf q)) (s2 : cntN 13 (askOf q) ≤ 1000) (l : List T31) (hl : l.length ≤ 1000000) (hr : ∀ r ∈ l, r.f4.size ≤ 9223372036854775807) :
  ∃ t, (mayQ 13 q = true → ∃ u, Srt ltr u ∧ SE ltr (l.filter (hitB 13 q)) u ∧ t = u.take q.f4.toNat) ∧ (mayQ 13 q = false → t = []) ∧ Ev (fun k => grapevineref16_Find k q l) t := by
 obtain ⟨u, h1, h2, hE⟩ := rHits_ev s1 s2 l hl hr
 unfold grapevineref16_Find
 cases hm : mayQ 13 q with
 | false =>
  have := h2 hm
  subst this
  refine ⟨[], by simp, fun _ => rfl, Ev.bind hE (Ev.pos ?_ ((Ev.now _).is (by simp)))⟩
  simp only [List.length_nil]
  split <;> split <;> omega
 | true =>
  obtain ⟨h3, h4⟩ := h1 hm
  obtain ⟨q1, q2⟩ := mayQ_lim hm
  refine ⟨u.take q.f4.toNat, fun _ => ⟨u, h3, h4, rfl⟩, by simp, Ev.bind hE ?_⟩
  rw [if_neg (show ¬ (0 : Int) > q.f4 by omega)]
  by_cases c : q.f4 < (u.length : Int)
  ·rw [if_pos c]; exact Ev.pos (by omega) (Ev.now _)
  ·rw [if_neg c]; exact Ev.pos (by omega) ((Ev.now _).is (by rw [List.take_of_length_le (by omega), List.take_of_length_le (by omega)]))
theorem ScanFinds : ScanFinds_Pure := by
 intro q l hq hl
 apply Ev.rounds
 unfold grapevinelaw16_ScanFinds
 have h9 : q.f9.size ≤ 9223372036854775807 := hq.2.2.2.2.2.2.2.2.2
 have hr : ∀ r ∈ l, r.f4.size ≤ 9223372036854775807 := fun r h => (hl.2 r h).2.2.2.2
 have aw : Ev (fun k => (grapevinelaw16_awake k).bind fun t => some t) true := Ev.bind awake_ev (Ev.now _)
 obtain ⟨g, hg, hgs⟩ := GreatAsk_ev (askOf q)
 show Ev (fun k => ((grapevinelaw0_GreatAsk k (askOf q)).bind fun t4 => _).bind _) true
 cases g with
 | true => exact Ev.bind (b := true) (Ev.bind hg (Ev.pos rfl (Ev.now _))) (Ev.pos rfl aw)
 | false =>
 by_cases c9 : (q.f9.size : Int) > 300
 ·exact Ev.bind (b := true) (Ev.bind hg (Ev.neg Bool.false_ne_true (Ev.pos c9 (Ev.now _)))) (Ev.pos rfl aw)
 obtain ⟨g1, hg1, hgs1⟩ := GreatR_ev l 30 (by omega)
 refine Ev.bind (b := g1) (Ev.bind hg (Ev.neg Bool.false_ne_true (Ev.neg c9 (Ev.bind hg1 (Ev.now _))))) ?_
 cases g1 with
 | true => exact Ev.pos rfl aw
 | false =>
 have n1 := hgs1 rfl
 obtain ⟨s1, s2⟩ := hgs rfl
 refine Ev.neg Bool.false_ne_true (Ev.pos (by omega) ?_)
 obtain ⟨a, at_, af, aE⟩ := Find_ev (d := 13) (by decide) h9 s1 (by omega) l (by omega) hr
 obtain ⟨b, bt, bf, bE⟩ := rFind_ev s1 (by omega) l (by omega) hr
 have ab : b = a ∧ a.length ≤ 50 := by
  cases hm : mayQ 13 q with
  | false => rw [af hm, bf hm]; simp
  | true =>
   obtain ⟨_, _, u, hu, su, rfl⟩ := at_ hm
   obtain ⟨u', hu', su', rfl⟩ := bt hm
   have : u' = u := Srt.uniq ltr_swo hu' hu (su'.symm.trans su)
   rw [this]; exact ⟨rfl, by rw [List.length_take]; omega⟩
 obtain ⟨rfl, al⟩ := ab
 refine Ev.bind aE ?_
 refine Ev.bind (b := true) (Ev.bind bE (Ev.bind (SameR_self b (by omega)) (Ev.pos rfl (Ev.bind (KeptRecords_ev l (by omega)) (Ev.now _))))) ?_
 refine Ev.bind (OverRecords_ev b (by omega)) ?_
 exact Ev.bind (b := true) (Ev.pos rfl (Ev.bind (KeptRecords_ev l (by omega)) (Ev.pos rfl aw))) (Ev.now _)
end Go.Proofs.YtbphlohiealbeaaGreatDoor.Pure
