/- The plain law of StateOrigins. -/
import Derived.Test.YtbifgnloeopdaaaDoorLStateOrigins
import Derived.Test.YtbifgnloeopdaaaDoorPSt9
namespace Go.Proofs.YtbifgnloeopdaaaDoor.Pure
open Go Go.Gg Go.Gp Gf
set_option linter.unusedVariables false
set_option linter.unusedSimpArgs false
theorem parts_ev {n : Nat} (h1 : 1 ≤ n) (hn : n ≤ 8) : Ev (fun k => grapevinelaw19_StateOrigins_l0 (n : Int) k [] 0) (List.replicate n (newS n)) := by
 have := Ev.count (F := fun k (y : List T46) i => grapevinelaw19_StateOrigins_l0 (n : Int) k y i) (r := List.replicate n (newS n)) (fun i => List.replicate i (newS n)) n (fun i hi r H => by
  refine Ev.step (fun k => by rw [grapevinelaw19_StateOrigins_l0]) ?_; refine Ev.pos (by omega) ?_; rw [New_some h1 hn]; refine Ev.name fun c hc => ?_
  subst hc; refine Ev.pos (by simp; omega) ?_; have e64 : IntKind.i64.wrap ((i : Int) + 1) = ((i + 1 : Nat) : Int) := by rw [i64w (by omega)]; omega
  rw [e64, ← List.replicate_succ']; exact H) (by
  refine Ev.step (fun k => by rw [grapevinelaw19_StateOrigins_l0]) ?_; exact Ev.neg (by omega) (Ev.now _))
 exact this
theorem acts_ev {n : Nat} (h1 : 1 ≤ n) (hn : n ≤ 8) (l : List T36) (hl : l.length ≤ 30) : ∀ (m i : Nat), i + m = l.length → ∀ (w : T46) (ps : List T46), Parts n w ps →
  ∃ r : T46 × List T46, Ev (fun k => grapevinelaw19_StateOrigins_l1 (n : Int) l k (i : Int) ps w) r ∧ Parts n r.1 r.2 := by
 intro m
 induction m with
 | zero =>
  intro i hi w ps h; refine ⟨(w, ps), ?_, h⟩; refine Ev.step (fun k => by rw [grapevinelaw19_StateOrigins_l1]) ?_; exact Ev.neg (by omega) (Ev.now _)
 | succ m ih =>
  intro i hi w ps h; obtain ⟨x, hx⟩ : ∃ x, x = l.getD i z36 := ⟨_, rfl⟩; have ex : (⟨x.f0, x.f1, x.f2, x.f3, x.f4, x.f5, x.f6, x.f7, x.f8⟩ : T36) = x := rfl; have ey : ∀ y : T46, (⟨y.f0, y.f1, y.f2⟩ : T46) = y := fun y => rfl
  have e64 : IntKind.i64.wrap ((i : Int) + 1) = ((i + 1 : Nat) : Int) := by rw [i64w (by omega)]; omega
  have dec : ∀ o : Int, Ev (fun k => (if x.f0 = 2 then some true else (if o < 0 then some true else some (decide (o ≥ (n : Int)))))) (decide (x.f0 = 2 ∨ ¬ (0 ≤ o ∧ o < n))) := fun o => by
   by_cases c2 : x.f0 = 2
   ·exact Ev.pos c2 ((Ev.now _).is (by simp [c2]))
   refine Ev.neg c2 ?_; by_cases c3 : o < 0
   ·exact Ev.pos c3 ((Ev.now _).is (by rw [decide_eq_true (by omega)]))
   ·refine Ev.neg c3 ((Ev.now _).is ?_); rw [decide_eq_decide]; omega
  obtain ⟨r0, hr0, hp0⟩ := ih (i + 1) (by omega) w ps h; have main : ∀ o : Int, (x.f0 = 1 ∧ o = x.f1 ∨ x.f0 ≠ 1 ∧ o = x.f3) →
    ∃ r : T46 × List T46, Ev (fun k => ((if x.f0 = 2 then some true else (if o < 0 then some true else some (decide (o ≥ (n : Int))))).bind fun s => (if s = true then grapevinelaw19_StateOrigins_l1 (n : Int) l k (IntKind.i64.wrap ((i : Int) + 1)) ps w else ((grapevinelaw19_play k w (⟨x.f0, x.f1, x.f2, x.f3, x.f4, x.f5, x.f6, x.f7, x.f8⟩ : T36)).bind fun t => (if 0 ≤ o ∧ o < (ps.length : Int) then ((grapevinelaw19_play k (⟨(ps.getD o.toNat z46).f0, (ps.getD o.toNat z46).f1, (ps.getD o.toNat z46).f2⟩ : T46) (⟨x.f0, x.f1, x.f2, x.f3, x.f4, x.f5, x.f6, x.f7, x.f8⟩ : T36)).bind fun t2 => grapevinelaw19_StateOrigins_l1 (n : Int) l k (IntKind.i64.wrap ((i : Int) + 1)) (ps.set o.toNat t2) t) else none))))) r ∧ Parts n r.1 r.2 := fun o ho => by
   rw [e64]; by_cases c : x.f0 = 2 ∨ ¬ (0 ≤ o ∧ o < n)
   ·refine ⟨r0, ?_, hp0⟩; refine Ev.bind (dec o) ?_; rw [decide_eq_true c]; exact Ev.pos rfl hr0
   ·have c2 : x.f0 ≠ 2 := fun e => c (.inl e)
    have c3 : 0 ≤ o ∧ o < n := Classical.byContradiction fun e => c (.inr e)
    obtain ⟨w', q', hw, hq, hp⟩ := h.step h1 hn x o c3 (by rcases ho with d | d; exact .inl d; exact .inr ⟨d.1, c2, d.2⟩); obtain ⟨r, hr, hp'⟩ := ih (i + 1) (by omega) w' _ hp; refine ⟨r, ?_, hp'⟩; refine Ev.bind (dec o) ?_; rw [decide_eq_false c]; refine Ev.neg Bool.false_ne_true ?_; refine Ev.bind hw ?_; refine Ev.pos (by rw [h.len]; exact c3) ?_; exact Ev.bind hq hr
  by_cases c1 : x.f0 = 1
  ·obtain ⟨r, hr, hp⟩ := main x.f1 (.inl ⟨c1, rfl⟩); refine ⟨r, ?_, hp⟩; refine Ev.step (fun k => by rw [grapevinelaw19_StateOrigins_l1]) ?_; refine Ev.pos (by omega) (Ev.pos (by omega) ?_); rw [Int.toNat_natCast, ← hx]; exact Ev.pos c1 hr
  ·obtain ⟨r, hr, hp⟩ := main x.f3 (.inr ⟨c1, rfl⟩); refine ⟨r, ?_, hp⟩; refine Ev.step (fun k => by rw [grapevinelaw19_StateOrigins_l1]) ?_; refine Ev.pos (by omega) (Ev.pos (by omega) ?_); rw [Int.toNat_natCast, ← hx]; exact Ev.neg c1 hr
theorem StateOrigins : StateOrigins_Pure := by
 intro a l ha hl; apply Ev.rounds; unfold grapevinelaw19_StateOrigins; have aw : Ev (fun k => (grapevinelaw19_awake k).bind fun t => some t) true := Ev.bind awake_ev (Ev.now _); by_cases ha : 1 ≤ a ∧ a ≤ 8
 case neg =>
  rw [New_none ha]; refine Ev.name fun t ht => ?_
  subst ht; simp only [Option.elim_none]; exact aw
 obtain ⟨n, rfl⟩ : ∃ n : Nat, a = n := ⟨a.toNat, by omega⟩; have h1 : 1 ≤ n := by omega
 have hn : n ≤ 8 := by omega
 rw [New_some h1 hn]; refine Ev.name fun t ht => ?_
 subst ht; simp only [Option.elim_some]; obtain ⟨g, hg, hgs⟩ := great_ev l (m := 30) (by omega)
 cases g with
 | true => exact Ev.bind (b := true) (Ev.neg (by omega) (Ev.bind hg (Ev.now _))) (Ev.pos rfl aw)
 | false =>
 refine Ev.bind (b := false) (Ev.neg (by omega) (Ev.bind hg (Ev.now _))) ?_; refine Ev.neg Bool.false_ne_true ?_; obtain ⟨hlen, _⟩ := hgs rfl; refine Ev.bind (parts_ev h1 hn) ?_; obtain ⟨⟨w, ps⟩, hr, hp⟩ := acts_ev h1 hn l (by omega) l.length 0 (by omega) (newS n) _ (Parts.start n); refine Ev.bind hr ?_; have hw := hp.whole; have hz := Told.new n; refine Ev.bind (JoinL_ev h1 hn ps (by rw [hp.len]; omega) (by rw [hp.len]; omega) hp.told) ?_; rw [hp.together h1]; simp only [Option.elim_some]; refine Ev.name fun t ht => ?_
 subst ht; simp only [Option.elim_some]; refine Ev.bind (b := true) ?_ (Ev.now _); refine Ev.bind (Same_self hw.1 hn) (Ev.pos rfl ?_); refine Ev.bind ((Join_ev hw.1 hz.1 h1 hn).is (by rw [join_new hw])) ?_; simp only [Option.elim_some]; refine Ev.bind (Same_self hw.1 hn) (Ev.pos rfl ?_); refine Ev.bind ((Join3_ev hz hw h1 hn).is (by rw [new_join hw, join_new hw])) ?_; simp only [Option.elim_some]; refine Ev.bind (Same_self hw.1 hn) (Ev.pos rfl ?_); rw [V_eq hz.1 hn, V_eq hw.1 hn]; refine Ev.name fun v hv => ?_
 subst hv; refine Ev.name fun v hv => ?_
 subst hv; refine Ev.bind ((Below_ev hz.1.v.1 hw.1.v.1 hn).is (decide_eq_true fun i hi => ?_)) (Ev.pos rfl aw); show (List.replicate n (0 : Int)).getD i 0 ≤ _; rw [getD_zero]; exact (hw.1.v.2 i).1
end Go.Proofs.YtbifgnloeopdaaaDoor.Pure
