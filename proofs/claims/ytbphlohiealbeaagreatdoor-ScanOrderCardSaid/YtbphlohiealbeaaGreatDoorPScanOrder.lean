/- The plain law of ScanOrder. -/
import Derived.Test.YtbphlohiealbeaaGreatDoorF0
import Derived.Test.YtbphlohiealbeaaGreatDoorF4
import Derived.Test.YtbphlohiealbeaaGreatDoorLScanOrder
import Derived.Test.YtbphlohiealbeaaGreatDoorPScanK
namespace Go.Proofs.YtbphlohiealbeaaGreatDoor.Pure
open Go Go.Gg Go.Gp Gf
set_option linter.unusedVariables false
set_option linter.unusedSimpArgs false
theorem ScanOrder : ScanOrder_Pure := by
  intro q l a2 m hq hl ha hm
  apply Ev.rounds
  unfold grapevinelaw16_ScanOrder
  have h9 : q.f9.size ≤ 9223372036854775807 := hq.2.2.2.2.2.2.2.2.2
  have hr : ∀ r ∈ l, r.f4.size ≤ 9223372036854775807 := fun r h => (hl.2 r h).2.2.2.2
  have hrm : m.f4.size ≤ 9223372036854775807 := hm.2.2.2.2
  have aw : Ev (fun k => (grapevinelaw16_awake k).bind fun t => some t) true := Ev.bind awake_ev (Ev.now _)
  obtain ⟨g, hg, hgs⟩ := GreatAsk_ev (askOf q)
  show Ev (fun k => ((grapevinelaw0_GreatAsk k (askOf q)).bind fun t4 => _).bind _) true
  cases g with
  | true => exact Ev.bind (b := true) (Ev.bind hg (Ev.pos rfl (Ev.now _))) (Ev.pos rfl aw)
  | false =>
  by_cases c9 : (q.f9.size : Int) > 300
  · exact Ev.bind (b := true) (Ev.bind hg (Ev.neg Bool.false_ne_true (Ev.pos c9 (Ev.now _)))) (Ev.pos rfl aw)
  obtain ⟨g1, hg1, hgs1⟩ := GreatR_ev l 30 (by omega)
  cases g1 with
  | true => exact Ev.bind (b := true) (Ev.bind hg (Ev.neg Bool.false_ne_true (Ev.neg c9 (Ev.bind hg1 (Ev.pos rfl (Ev.now _)))))) (Ev.pos rfl aw)
  | false =>
  by_cases cm : (m.f4.size : Int) > 300
  · exact Ev.bind (b := true) (Ev.bind hg (Ev.neg Bool.false_ne_true (Ev.neg c9 (Ev.bind hg1 (Ev.neg Bool.false_ne_true (Ev.pos cm (Ev.now _))))))) (Ev.pos rfl aw)
  have n1 := hgs1 rfl
  obtain ⟨kb, hkE, hk⟩ := keyed_ev l (by omega)
  cases kb with
  | false => exact Ev.bind (b := true) (Ev.bind hg (Ev.neg Bool.false_ne_true (Ev.neg c9 (Ev.bind hg1 (Ev.neg Bool.false_ne_true (Ev.neg cm (Ev.bind hkE (Ev.now _)))))))) (Ev.pos rfl aw)
  | true =>
  have hk := hk rfl
  obtain ⟨s1, s2⟩ := hgs rfl
  refine Ev.bind (b := false) (Ev.bind hg (Ev.neg Bool.false_ne_true (Ev.neg c9 (Ev.bind hg1 (Ev.neg Bool.false_ne_true (Ev.neg cm (Ev.bind hkE (Ev.now _)))))))) (Ev.neg Bool.false_ne_true ?_)
  obtain ⟨t, ht, t0, t1⟩ := Low_at (a := a2) (b := (l.length : Int) + 1) (by omega)
  rw [i64w (by omega), ht]
  refine Ev.name fun t' e => ?_
  subst e
  obtain ⟨tn, rfl⟩ : ∃ tn : Nat, t' = tn := ⟨t'.toNat, by omega⟩
  refine Ev.pos (by omega) (Ev.pos (by omega) ?_)
  have z0 : (0 : Int).toNat = 0 := rfl
  simp only [Int.toNat_natCast, List.take_length, z0, List.drop_zero, List.nil_append]
  refine Ev.pos (by simp; omega) (Ev.pos (by simp; omega) ?_)
  refine Ev.name fun w hw => ?_
  have hwp : l.Perm w := by
    rw [hw]
    have := List.perm_append_comm (l₁ := l.take tn) (l₂ := l.drop tn)
    rwa [List.take_append_drop] at this
  have hwl : w.length = l.length := hwp.length_eq.symm
  have hwr : ∀ r ∈ w, r.f4.size ≤ 9223372036854775807 := fun r h => hr r (hwp.mem_iff.2 h)
  have FE := fun (m : List T31) hm hmr => Find_ev (d := 13) (by decide) h9 s1 (by omega) m hm hmr
  obtain ⟨a, at_, af, aE⟩ := FE l (by omega) hr
  obtain ⟨b, bt, bf, bE⟩ := FE w (by omega) hwr
  have key : ∀ (v : List T31) (b : List T31), v.filter (hitB 13 q) = w.filter (hitB 13 q) → (mayQ 13 q = true → 1 ≤ q.f4 ∧ q.f4 ≤ 50 ∧ ∃ u, Srt ltr u ∧ SE ltr (v.filter (hitB 13 q)) u ∧ b = u.take q.f4.toNat) → (mayQ 13 q = false → b = []) → b = a := fun v b hv bt bf => by
    cases hmq : mayQ 13 q with
    | false => rw [bf hmq, af hmq]
    | true =>
      obtain ⟨_, _, u, hu, su, rfl⟩ := at_ hmq
      obtain ⟨_, _, u', hu', su', rfl⟩ := bt hmq
      have : u' = u := Srt.uniq ltr_swo hu' hu (su'.symm.trans (by
        rw [hv]
        exact (SE.perm ltr_swo (hwp.filter (hitB 13 q)) (hk.filter (hitB 13 q))).symm.trans su))
      rw [this]
  have ba := key w b rfl bt bf
  have al : a.length ≤ 50 := by
    cases hmq : mayQ 13 q with
    | false => rw [af hmq]; simp
    | true => obtain ⟨x, y, u, hu, su, rfl⟩ := at_ hmq; rw [List.length_take]; omega
  refine Ev.bind aE (Ev.bind bE ?_)
  rw [ba]
  refine Ev.bind (SameR_self a (by omega)) (Ev.neg (by simp) ?_)
  refine Ev.bind (b := false) ?_ (Ev.neg Bool.false_ne_true aw)
  obtain ⟨c, ct, cf, cE⟩ := Find_ev (d := 13) (q := one q) (by decide) (by show (0 : Nat) ≤ _; omega) s1 (by show cntN 13 (askOf q) ≤ 1000; omega) [m] (by simp) (fun r h => by simp at h; rw [h]; exact hrm)
  refine Ev.bind cE ?_
  by_cases c0 : (c.length : Int) = 0
  · refine Ev.pos c0 (Ev.pos (by simp; omega) ?_)
    obtain ⟨e, et, ef, eE⟩ := FE (w ++ [m]) (by simp; omega) (fun r h => (List.mem_append.1 h).elim (hwr r) fun h => by simp at h; rw [h]; exact hrm)
    have ea : e = a := by
      cases hmq : mayQ 13 q with
      | false => rw [ef hmq, af hmq]
      | true =>
        refine key (w ++ [m]) e ?_ et ef
        have hm1 : mayQ 13 (one q) = true := by rw [mayQ_one]; exact mayQ_may hmq
        obtain ⟨_, _, u, hu, su, rfl⟩ := ct hm1
        have hul : u.length = 0 := by
          have : (one q).f4.toNat = 1 := rfl
          rw [this, List.length_take] at c0; omega
        have h1 := SE.length su
        have h2 : hitB 13 (one q) m = false := by
          cases h3 : hitB 13 (one q) m with
          | false => rfl
          | true => rw [List.filter_cons_of_pos h3] at h1; simp at h1; omega
        have h4 : hitB 13 q m = false := by
          cases h3 : hitB 13 q m with
          | false => rfl
          | true => have := hitB_holds h3; rw [← hitB_one, h2] at this; cases this
        rw [List.filter_append, List.filter_cons_of_neg (by rw [h4]; simp)]; simp
    refine Ev.bind eE ?_
    rw [ea]
    exact Ev.bind (SameR_self a (by omega)) (Ev.now _)
  · exact Ev.neg c0 (Ev.now _)
end Go.Proofs.YtbphlohiealbeaaGreatDoor.Pure
