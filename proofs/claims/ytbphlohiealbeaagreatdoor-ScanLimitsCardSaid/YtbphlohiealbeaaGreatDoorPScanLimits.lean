/- The plain law of ScanLimits. -/
import Derived.Test.YtbphlohiealbeaaGreatDoorF0
import Derived.Test.YtbphlohiealbeaaGreatDoorF3
import Derived.Test.YtbphlohiealbeaaGreatDoorF4
import Derived.Test.YtbphlohiealbeaaGreatDoorF7
import Derived.Test.YtbphlohiealbeaaGreatDoorLScanLimits
import Derived.Test.YtbphlohiealbeaaGreatDoorPScanK
namespace Go.Proofs.YtbphlohiealbeaaGreatDoor.Pure
open Go Go.Gg Go.Gp Gf
set_option linter.unusedVariables false
set_option linter.unusedSimpArgs false
theorem find_one {q : T33} (s1 : SmallN 13 (askOf q)) (s2 : cntN 13 (askOf q) ≤ 60) (hmay : mayB 13 (askOf q) = true) {x : T31} (hx : x.f4.size ≤ 9223372036854775807) (hh : holdsD 13 (askOf q) x = true) : ∃ c : List T31, c.length = 1 ∧ Ev (fun k => scan_Find k (one q) [x]) c := by
 obtain ⟨c, ct, cf, cE⟩ := Find_ev (d := 13) (q := one q) (by decide) (by show (0 : Nat) ≤ _; omega) s1 (by show cntN 13 (askOf q) ≤ 1000; omega) [x] (by simp) (fun r h => by simp at h; rw [h]; exact hx)
 refine ⟨c, ?_, cE⟩
 obtain ⟨_, _, u, hu, su, rfl⟩ := ct (by rw [mayQ_one]; exact hmay)
 have h1 := SE.length su
 rw [List.filter_cons_of_pos (by rw [hitB_one]; exact hh)] at h1
 have : (one q).f4.toNat = 1 := rfl
 rw [this, List.length_take]; simp at h1; omega
theorem limits_ev {q : T33} (s1 : SmallN 13 (askOf q)) (s2 : cntN 13 (askOf q) ≤ 60) (hmay : mayB 13 (askOf q) = true) (b : List T31) (hl : b.length ≤ 50) (hs : Srt ltr b) (hb : ∀ x ∈ b, x.f4.size ≤ 9223372036854775807 ∧ holdsD 13 (askOf q) x = true ∧ (¬ q.f6 = 0 → ltr x (afterOf q) = false)) :
  Ev (fun k => grapevinelaw16_ScanLimits_l0 q b k 0) (Sum.inr ()) := by
 have := Ev.count (F := fun k (_ : Unit) i => grapevinelaw16_ScanLimits_l0 q b k i) (r := Sum.inr ()) (fun _ => ()) b.length (fun i hi r H => by
  obtain ⟨x, hx⟩ : ∃ x, x = b.getD i z31 := ⟨_, rfl⟩
  have hxm : x ∈ b := by rw [hx, getD_eq b z31 hi]; exact List.getElem_mem _
  obtain ⟨h1, h2, h3⟩ := hb x hxm
  obtain ⟨c, hc, hE⟩ := find_one s1 s2 hmay h1 h2
  have last : Ev (fun k => (scan_Find k (one q) [x]).bind fun t => some ((t.length : Int) != 1)) false := Ev.bind hE ((Ev.now _).is (by rw [hc]; rfl))
  have step64 : IntKind.i64.wrap ((i : Int) + 1) = ((i + 1 : Nat) : Int) := by rw [i64w (by omega)]; omega
  refine Ev.step (fun k => by rw [grapevinelaw16_ScanLimits_l0]) (Ev.pos (by omega) ?_)
  rw [Int.toNat_natCast, ← hx]
  refine Ev.bind (b := false) ?_ (Ev.neg Bool.false_ne_true (by rw [step64]; exact H))
  have mid : Ev (fun k => (if ¬ q.f6 = 0 then (if 0 ≤ (i : Int) ∧ (i : Int) < (b.length : Int) then ((grapevineref4_Less x (⟨q.f5, q.f6, q.f7, q.f8, q.f9⟩ : T31)).bind fun t68 => (if t68 = true then some true else (if 0 ≤ (i : Int) ∧ (i : Int) < (b.length : Int) then ((scan_Find k (one q) [x]).bind fun t => some ((t.length : Int) != 1)) else none))) else none) else (if 0 ≤ (i : Int) ∧ (i : Int) < (b.length : Int) then ((scan_Find k (one q) [x]).bind fun t => some ((t.length : Int) != 1)) else none))) false := by
   refine Ev.ite (fun c => Ev.pos (by omega) ?_) (fun _ => Ev.pos (by omega) last)
   rw [rLess_some, show (⟨q.f5, q.f6, q.f7, q.f8, q.f9⟩ : T31) = afterOf q from rfl, h3 c]
   exact Ev.name fun t ht => by rw [ht]; exact Ev.neg Bool.false_ne_true (Ev.pos (by omega) last)
  refine Ev.ite (fun c => ?_) (fun _ => mid)
  rw [i64w (x := (i : Int) - 1) (by omega)]
  refine Ev.pos (by omega) (Ev.pos (by omega) ?_)
  have e : ltr x (b.getD ((i : Int) - 1).toNat z31) = false := by
   rw [hx]; exact srt_getD hs (by omega) hi
  rw [rLess_some, e]
  exact Ev.name fun t ht => by rw [ht]; exact Ev.neg Bool.false_ne_true mid) (by
  refine Ev.step (fun k => by rw [grapevinelaw16_ScanLimits_l0]) ?_
  exact Ev.neg (by omega) (Ev.now _))
 exact this
theorem ScanLimits : ScanLimits_Pure := by
 intro q l a2 hq hl ha
 apply Ev.rounds
 unfold grapevinelaw16_ScanLimits
 have h9 : q.f9.size ≤ 9223372036854775807 := hq.2.2.2.2.2.2.2.2.2
 have hr : ∀ r ∈ l, r.f4.size ≤ 9223372036854775807 := fun r h => (hl.2 r h).2.2.2.2
 have aw : Ev (fun k => (grapevinelaw16_awake k).bind fun t => some t) true := Ev.bind awake_ev (Ev.now _)
 obtain ⟨g, hg, hgs⟩ := GreatAsk_ev (askOf q)
 show Ev (fun k => ((grapevinelaw0_GreatAsk k (askOf q)).bind fun t4 => _).bind _) true
 cases g with
 | true => exact Ev.bind (b := true) (Ev.bind hg (Ev.pos rfl (Ev.now _))) (Ev.pos rfl aw)
 | false =>
 by_cases c9 : (q.f9.size : Int) > 300
 ·exact Ev.bind (b := true) (Ev.bind hg (Ev.neg Bool.false_ne_true (Ev.pos c9 (Ev.now _)))) (Ev.pos rfl aw)
 obtain ⟨g1, hg1, hgs1⟩ := GreatR_ev l 30 (by omega)
 cases g1 with
 | true => exact Ev.bind (b := true) (Ev.bind hg (Ev.neg Bool.false_ne_true (Ev.neg c9 (Ev.bind hg1 (Ev.pos rfl (Ev.now _)))))) (Ev.pos rfl aw)
 | false =>
 have n1 := hgs1 rfl
 obtain ⟨s1, s2⟩ := hgs rfl
 have hME := rMayQuery_ev (d := 13) (by decide) (q := q) s1 (by omega)
 cases hmq : mayQ 13 q with
 | false => exact Ev.bind (b := true) (Ev.bind hg (Ev.neg Bool.false_ne_true (Ev.neg c9 (Ev.bind hg1 (Ev.neg Bool.false_ne_true (Ev.bind (hME.is hmq) (Ev.now _))))))) (Ev.pos rfl aw)
 | true =>
 refine Ev.bind (b := false) (Ev.bind hg (Ev.neg Bool.false_ne_true (Ev.neg c9 (Ev.bind hg1 (Ev.neg Bool.false_ne_true (Ev.bind (hME.is hmq) (Ev.now _))))))) (Ev.neg Bool.false_ne_true ?_)
 obtain ⟨q1, q2⟩ := mayQ_lim hmq
 obtain ⟨t, ht, t0, t1⟩ := Low_at (a := a2) (b := 50) (by omega)
 rw [ht]
 refine Ev.name fun t' e => ?_
 subst e
 rw [i64w (x := q.f4 + t') (by omega)]
 obtain ⟨L, hL⟩ : ∃ L, L = (if 50 < q.f4 + t' then 50 else q.f4 + t') := ⟨_, rfl⟩
 rw [← hL]
 have hLb : q.f4 ≤ L ∧ L ≤ 50 := by rw [hL]; split <;> omega
 obtain ⟨p, hp⟩ : ∃ p : T33, p = ⟨q.f0, q.f1, q.f2, q.f3, L, q.f5, q.f6, q.f7, q.f8, q.f9⟩ := ⟨_, rfl⟩
 rw [← hp]
 have pa : askOf p = askOf q := by rw [hp]; rfl
 have paf : afterOf p = afterOf q := by rw [hp]; rfl
 have p4 : p.f4 = L := by rw [hp]
 have hmp : mayQ 13 p = true := by
  have hm := hmq
  have e9 : p.f9 = q.f9 := by rw [hp]
  unfold mayQ at hm ⊢
  have : afterB p = afterB q := by unfold afterB; rw [paf, e9]
  rw [this, pa, p4]
  simp only [Bool.and_eq_true, decide_eq_true_eq] at hm ⊢
  exact ⟨⟨by omega, hm.1.2⟩, hm.2⟩
 have hh : hitB 13 p = hitB 13 q := by funext r; unfold hitB; rw [pa, paf]
 obtain ⟨a, at_, af, aE⟩ := Find_ev (d := 13) (by decide) h9 s1 (by omega) l (by omega) hr
 obtain ⟨b, bt, bf, bE⟩ := Find_ev (d := 13) (q := p) (by decide) (by rw [hp]; exact h9) (by rw [pa]; exact s1) (by rw [pa]; omega) l (by omega) hr
 refine Ev.bind aE (Ev.bind bE ?_)
 obtain ⟨_, _, u, hu, su, ea⟩ := at_ hmq
 obtain ⟨_, _, u', hu', su', eb⟩ := bt hmp
 have uu : u' = u := Srt.uniq ltr_swo hu' hu (by rw [hh] at su'; exact su'.symm.trans su)
 subst uu
 rw [p4] at eb
 have al : a.length = min q.f4.toNat u'.length := by rw [ea, List.length_take]
 have bl : b.length = min L.toNat u'.length := by rw [eb, List.length_take]
 have tk : b.take a.length = a := by
  rw [eb, List.take_take, al, ea]
  by_cases c : q.f4.toNat ≤ u'.length
  ·congr 1; omega
  ·rw [List.take_of_length_le (by omega), List.take_of_length_le (by omega)]
 have bmem : ∀ x ∈ b, x ∈ l ∧ hitB 13 q x = true := fun x hx => by
  have h1 : x ∈ u' := by rw [eb] at hx; exact List.mem_of_mem_take hx
  exact List.mem_filter.1 (SE.mem ltr_swo su.symm h1)
 refine Ev.bind (b := false) ?_ (Ev.neg Bool.false_ne_true ?_)
 ·refine Ev.neg (by omega) (Ev.neg ?_ (Ev.pos (by omega) ?_))
  ·rw [Classical.not_not]; split <;> omega
  ·rw [Int.toNat_natCast, tk]
   exact Ev.bind (SameR_self a (by omega)) (Ev.now _)
 ·refine Ev.bind (limits_ev s1 s2 (mayQ_may hmq) b (by omega) (by rw [eb]; exact Srt.sub hu' (List.take_sublist _ _)) (fun x hx => ⟨hr x (bmem x hx).1, hitB_holds (bmem x hx).2, fun h6 => ?_⟩)) aw
  have h1 := (bmem x hx).2
  unfold hitB earlyB at h1
  simp only [Bool.and_eq_true, Bool.not_eq_true', Bool.and_eq_false_iff, Bool.or_eq_false_iff, decide_eq_false_iff_not] at h1
  rcases h1.1 with h | h
  ·exact absurd (mayQ_seq hmq h6) h
  ·exact h.1
end Go.Proofs.YtbphlohiealbeaaGreatDoor.Pure
