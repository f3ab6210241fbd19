/- What an act does at its origin, and that it does nothing elsewhere. -/
import Derived.Test.YtbifgnloeopdaaaDoorPSt7
namespace Go.Proofs.YtbifgnloeopdaaaDoor.Pure
open Go Go.Gg Go.Gp Gf
set_option linter.unusedVariables false
set_option linter.unusedSimpArgs false
theorem mx_self (a : Int) : mx a a = a := by unfold mx; split <;> rfl
theorem mx_of_le {a b : Int} (h : b ≤ a) : mx a b = a := by unfold mx; rw [if_neg (by omega)]
theorem play_at {n : Nat} (h1 : 1 ≤ n) (hn : n ≤ 8) (x : T36) (o : Int) (ho : 0 ≤ o ∧ o < n) (hx : x.f0 = 1 ∧ o = x.f1 ∨ x.f0 ≠ 1 ∧ x.f0 ≠ 2 ∧ o = x.f3) :
  ∃ g : Int → Int → Int × Int, ∀ s : T46, Told n s → ∃ s', Ev (fun k => grapevinelaw19_play k s x) s' ∧ Told n s' ∧ cnt n s' ≤ cnt n s + 1 ∧
   (∀ p : Int, 0 ≤ p ∧ p < n → p ≠ o → at0 s'.f0 p = at0 s.f0 p ∧ at0 s'.f1 p = at0 s.f1 p) ∧ (at0 s'.f0 o, at0 s'.f1 o) = g (at0 s.f0 o) (at0 s.f1 o) := by
 rcases hx with ⟨c1, hx⟩ | ⟨c1, c2, hx⟩
 ·by_cases c : 0 ≤ x.f2 ∧ x.f2 ≤ 1023
  ·refine ⟨fun v w => (mx v (mx w (if (if v < x.f2 then v else x.f2) > w then (if v < x.f2 then v else x.f2) else w)), mx w (if (if v < x.f2 then v else x.f2) > w then (if v < x.f2 then v else x.f2) else w)), fun s h => ?_⟩; have hR := Retire_ev h.1 h1 hn x.f1 x.f2; rw [if_pos ⟨by rw [← hx]; exact ho, c⟩] at hR; have hv := rtW_vec (u := x.f2) h.1 ho c; rw [← hx] at hR; refine ⟨raiseS s (rtW s o x.f2), ?_, h.raise hv, Nat.le_succ_of_le (cnt_raise h.1 hv), fun p hp hpo => ?_, ?_⟩
   ·unfold grapevinelaw19_play; rw [← hx]; exact Ev.neg (by omega) (Ev.pos c1 (Ev.bind hR (Ev.now _)))
   ·have e1 : at0 (rtW s o x.f2) p = at0 s.f1 p := by unfold rtW; rw [at0_set h.1.w.1 ho hp.1, if_neg hpo]
    have e2 := h.1.le.at0 hp; have e3 : at0 (zip mx s.f1 (rtW s o x.f2)) p = at0 s.f1 p := by rw [at0_zip h.1.w.1 hv.1 hp, e1, mx_self]
    refine ⟨?_, e3⟩; show at0 (zip mx s.f0 (zip mx s.f1 (rtW s o x.f2))) p = _; rw [at0_zip h.1.v.1 (len_zip h.1.w.1 hv.1) hp, e3, mx_of_le e2]
   ·have e1 : at0 (rtW s o x.f2) o = (if (if at0 s.f0 o < x.f2 then at0 s.f0 o else x.f2) > at0 s.f1 o then (if at0 s.f0 o < x.f2 then at0 s.f0 o else x.f2) else at0 s.f1 o) := by unfold rtW; rw [at0_set h.1.w.1 ho ho.1, if_pos rfl]
    have e3 := at0_zip (f := mx) h.1.w.1 hv.1 ho; have e4 := at0_zip (f := mx) h.1.v.1 (len_zip (f := mx) h.1.w.1 hv.1) ho; rw [e3, e1] at e4; rw [e1] at e3; exact Prod.ext e4 e3
  ·refine ⟨fun v w => (v, w), fun s h => ⟨s, ?_, h, by omega, fun p hp hpo => ⟨rfl, rfl⟩, rfl⟩⟩; have hR := Retire_ev h.1 h1 hn x.f1 x.f2; rw [if_neg (fun e => c e.2)] at hR; unfold grapevinelaw19_play; exact Ev.neg (by omega) (Ev.pos c1 (Ev.bind hR (Ev.now _)))
 ·subst hx; by_cases c0 : x.f0 = 0
  ·refine ⟨fun v w => if (1 ≤ x.f4 ∧ x.f4 ≤ 1023) ∧ x.f4 = v + 1 then (x.f4, w) else (v, w), fun s h => ?_⟩; have hA := Accept_eq h.1 (r := rk x.f3 x.f4) (rk_size _ _); have go : ∀ {c : Int} {s' : T46}, state_State_Accept s (rk x.f3 x.f4) = some (c, s') → Ev (fun k => grapevinelaw19_play k s x) s' := fun hA => by
    unfold grapevinelaw19_play; refine Ev.pos c0 ?_; rw [rec_eq]; refine Ev.name fun t ht => ?_
    subst ht; rw [hA]; exact Ev.now _
   have hrb := rk_may (o := x.f3) (q := x.f4); have f0e : (rk x.f3 x.f4).f0 = x.f3 := rfl; have f1e : (rk x.f3 x.f4).f1 = x.f4 := rfl; rw [f0e, f1e] at hA; by_cases c : (1 ≤ x.f4 ∧ x.f4 ≤ 1023) ∧ x.f4 = at0 s.f0 x.f3 + 1
   ·rw [if_neg (by rw [hrb, decide_eq_true ⟨by omega, c.1⟩]; simp; omega), if_neg (by omega), if_neg (by omega)] at hA; have k1 : x.f4 = at0 s.f0 x.f3 + 1 := c.2; have k0 : 0 ≤ x.f3 ∧ x.f3 < n := ho; refine ⟨_, go hA, h.accept k0 k1 c.1.2, cnt_accept h.1 (r := rk x.f3 x.f4) k0 k1, fun p hp hpo => ⟨?_, rfl⟩, ?_⟩
    ·show at0 (s.f0.set x.f3.toNat x.f4) p = _; rw [at0_set h.1.v.1 k0 hp.1, if_neg hpo]
    ·show (at0 (s.f0.set x.f3.toNat x.f4) x.f3, at0 s.f1 x.f3) = (if (1 ≤ x.f4 ∧ x.f4 ≤ 1023) ∧ x.f4 = at0 s.f0 x.f3 + 1 then (x.f4, at0 s.f1 x.f3) else (at0 s.f0 x.f3, at0 s.f1 x.f3)); rw [if_pos c, at0_set h.1.v.1 k0 ho.1, if_pos rfl]
   ·refine ⟨s, ?_, h, by omega, fun p hp hpo => ⟨rfl, rfl⟩, (if_neg c).symm⟩; by_cases d1 : recB (rk x.f3 x.f4) = false ∨ x.f3 ≥ n
    ·rw [if_pos d1] at hA; exact go hA
    rw [if_neg d1] at hA; by_cases d2 : x.f4 ≤ at0 s.f0 x.f3
    ·rw [if_pos d2] at hA; exact go hA
    rw [if_neg d2] at hA; by_cases d3 : x.f4 > at0 s.f0 x.f3 + 1
    ·rw [if_pos d3] at hA; exact go hA
    refine absurd ⟨?_, by omega⟩ c; simp only [not_or, Bool.not_eq_false] at d1; rw [hrb] at d1; exact (of_decide_eq_true d1.1).2
  ·refine ⟨fun v w => (v, w), fun s h => ⟨s, ?_, h, by omega, fun p hp hpo => ⟨rfl, rfl⟩, rfl⟩⟩; unfold grapevinelaw19_play; exact Ev.neg c0 (Ev.neg c1 (Ev.neg c2 (Ev.now _)))
end Go.Proofs.YtbifgnloeopdaaaDoor.Pure
