/- The plain law of DeemLogic. -/
import Derived.Test.YtbphlohiealbeaaDoorLDeemLogic
import Derived.Test.YtbphlohiealbeaaDoorPDeem3
namespace Go.Proofs.YtbphlohiealbeaaDoor.Pure
open Go Go.Gg Go.Gp Gf
set_option linter.unusedVariables false
set_option linter.unusedSimpArgs false
theorem one_small {d : Nat} {a : T25} (ha : SmallN d a) : SmallN (d + 1) ⟨9, 0, [], [a]⟩ ∧ cntN (d + 1) ⟨9, 0, [], [a]⟩ = 1 + cntN d a := by simp [SmallN, cntN, ha]
theorem two_small {d : Nat} {c : Int} {a b : T25} (ha : SmallN d a) (hb : SmallN d b) : SmallN (d + 1) ⟨c, 0, [], [a, b]⟩ ∧ cntN (d + 1) ⟨c, 0, [], [a, b]⟩ = 1 + (cntN d a + cntN d b) := by simp [SmallN, cntN, ha, hb]
theorem or_tail {M H : Nat → Option Bool} {A B m : Bool} (hM : Ev M m) (hH : m = true → Ev H (A || B)) :
    Ev (fun k => (M k).bind fun t => if t = true then (H k).bind fun u => (if A = true then some (!(u == true)) else some (!(u == B))) else some false) false := by
  refine Ev.bind hM ?_
  refine Ev.ite (fun e => Ev.bind (hH e) ?_) (fun _ => Ev.now _)
  exact Ev.ite (fun a => (Ev.now _).is (by simp [a])) (fun a => (Ev.now _).is (by simp [a]))
theorem and_tail {M H T1 T2 T3 : Nat → Option Bool} {A B m : Bool} (hM : Ev M m) (hH : m = true → Ev H (A && B)) (h1 : Ev T1 false) (h2 : Ev T2 false) (h3 : Ev T3 false) :
    Ev (fun k => (M k).bind fun t => if t = true then (H k).bind fun u => (if A = true then (if (!(u == B)) = true then some true else T1 k) else (if (!(u == false)) = true then some true else T2 k)) else T3 k) false := by
  refine Ev.bind hM ?_
  refine Ev.ite (fun e => Ev.bind (hH e) ?_) (fun _ => h3)
  exact Ev.ite (fun a => Ev.neg (by simp [a]) h1) (fun a => Ev.neg (by simp [a]) h2)
theorem not_tail {M H T1 T2 : Nat → Option Bool} {A m : Bool} (hM : Ev M m) (hH : m = true → Ev H (!A)) (h1 : Ev T1 false) (h2 : Ev T2 false) :
    Ev (fun k => (M k).bind fun t => if t = true then (H k).bind fun u => (if (u == A) = true then some true else T1 k) else T2 k) false := by
  refine Ev.bind hM ?_
  exact Ev.ite (fun e => Ev.bind (hH e) (Ev.neg (by cases A <;> simp) h1)) (fun _ => h2)
theorem DeemLogic : DeemLogic_Pure := by
  intro a b r ha hb hr
  have hrs : r.f4.size ≤ 9223372036854775807 := hr.2.2.2.2
  apply Ev.rounds
  unfold grapevinelaw15_DeemLogic
  rw [recMay_eq hrs]
  obtain ⟨g, hg, hgs⟩ := GreatAsk_ev a
  obtain ⟨g', hg', hgs'⟩ := GreatAsk_ev b
  have yes : ∀ {f : Nat → Option Bool}, Ev (fun k => if true = true then ((grapevinelaw15_awake k).bind fun t => some t) else f k) true := fun {f} => Ev.pos rfl (Ev.bind awake_ev (Ev.now _))
  cases g with
  | true => exact Ev.bind (b := true) (Ev.bind hg (Ev.pos rfl (Ev.now _))) yes
  | false =>
  cases g' with
  | true => exact Ev.bind (b := true) (Ev.bind hg (Ev.neg Bool.false_ne_true (Ev.bind hg' (Ev.pos rfl (Ev.now _))))) yes
  | false =>
    obtain ⟨h1, h2⟩ := hgs rfl
    obtain ⟨h1', h2'⟩ := hgs' rfl
    by_cases c1 : (r.f4.size : Int) > 300
    · exact Ev.bind (b := true) (Ev.bind hg (Ev.neg Bool.false_ne_true (Ev.bind hg' (Ev.neg Bool.false_ne_true (Ev.pos c1 (Ev.now _)))))) yes
    have hM := askMay_ev (d := 13) (by decide) h1 (by omega)
    have hM' := askMay_ev (d := 13) (by decide) h1' (by omega)
    cases hm : mayB 13 a
    · rw [hm] at hM
      exact Ev.bind (b := true) (Ev.bind hg (Ev.neg Bool.false_ne_true (Ev.bind hg' (Ev.neg Bool.false_ne_true (Ev.neg c1 (Ev.bind hM (Ev.pos rfl (Ev.now _)))))))) yes
    rw [hm] at hM
    cases hm' : mayB 13 b
    · rw [hm'] at hM'
      exact Ev.bind (b := true) (Ev.bind hg (Ev.neg Bool.false_ne_true (Ev.bind hg' (Ev.neg Bool.false_ne_true (Ev.neg c1 (Ev.bind hM (Ev.neg (by simp) (Ev.bind hM' (Ev.pos rfl (Ev.now _)))))))))) yes
    rw [hm'] at hM'
    cases hrb : recB r
    · exact Ev.bind (b := true) (Ev.bind hg (Ev.neg Bool.false_ne_true (Ev.bind hg' (Ev.neg Bool.false_ne_true (Ev.neg c1 (Ev.bind hM (Ev.neg (by simp) (Ev.bind hM' (Ev.neg (by simp) (Ev.name fun v hv => (Ev.now _).is (by rw [hv]; rfl))))))))))) yes
    refine Ev.bind (b := false) (Ev.bind hg (Ev.neg Bool.false_ne_true (Ev.bind hg' (Ev.neg Bool.false_ne_true (Ev.neg c1 (Ev.bind hM (Ev.neg (by simp) (Ev.bind hM' (Ev.neg (by simp) (Ev.name fun v hv => (Ev.now _).is (by rw [hv]; rfl))))))))))) ?_
    refine Ev.neg Bool.false_ne_true ?_
    obtain ⟨A, hA⟩ : ∃ A, A = holdsN r.f0 r.f2 (OfD r.f4) 13 a := ⟨_, rfl⟩
    obtain ⟨B, hB⟩ : ∃ B, B = holdsN r.f0 r.f2 (OfD r.f4) 13 b := ⟨_, rfl⟩
    obtain ⟨na, hna⟩ : ∃ x : T25, x = ⟨9, 0, [], [a]⟩ := ⟨_, rfl⟩
    obtain ⟨nb, hnb⟩ : ∃ x : T25, x = ⟨9, 0, [], [b]⟩ := ⟨_, rfl⟩
    obtain ⟨an, han⟩ : ∃ x : T25, x = ⟨7, 0, [], [a, b]⟩ := ⟨_, rfl⟩
    obtain ⟨o, ho⟩ : ∃ x : T25, x = ⟨8, 0, [], [a, b]⟩ := ⟨_, rfl⟩
    obtain ⟨nd, hnd⟩ : ∃ x : T25, x = ⟨9, 0, [], [an]⟩ := ⟨_, rfl⟩
    obtain ⟨nr, hnr⟩ : ∃ x : T25, x = ⟨8, 0, [], [na, nb]⟩ := ⟨_, rfl⟩
    have naS : SmallN 14 na ∧ cntN 14 na = 1 + cntN 13 a := by rw [hna]; exact one_small h1
    have nbS : SmallN 14 nb ∧ cntN 14 nb = 1 + cntN 13 b := by rw [hnb]; exact one_small h1'
    have anS : SmallN 14 an ∧ cntN 14 an = 1 + (cntN 13 a + cntN 13 b) := by rw [han]; exact two_small h1 h1'
    have oS : SmallN 14 o ∧ cntN 14 o = 1 + (cntN 13 a + cntN 13 b) := by rw [ho]; exact two_small h1 h1'
    have ndS : SmallN 15 nd ∧ cntN 15 nd = 1 + cntN 14 an := by rw [hnd]; exact one_small anS.1
    have nrS : SmallN 15 nr ∧ cntN 15 nr = 1 + (cntN 14 na + cntN 14 nb) := by rw [hnr]; exact two_small naS.1 nbS.1
    have naH : holdsN r.f0 r.f2 (OfD r.f4) 14 na = !A := by rw [hna, hA]; rfl
    have nbH : holdsN r.f0 r.f2 (OfD r.f4) 14 nb = !B := by rw [hnb, hB]; rfl
    have anH : holdsN r.f0 r.f2 (OfD r.f4) 14 an = (A && B) := by
      rw [han]
      show (holdsN r.f0 r.f2 (OfD r.f4) 13 a && (holdsN r.f0 r.f2 (OfD r.f4) 13 b && true)) = _
      rw [← hA, ← hB, Bool.and_true]
    have oH : holdsN r.f0 r.f2 (OfD r.f4) 14 o = (A || B) := by
      rw [ho]
      show (holdsN r.f0 r.f2 (OfD r.f4) 13 a || (holdsN r.f0 r.f2 (OfD r.f4) 13 b || false)) = _
      rw [← hA, ← hB, Bool.or_false]
    have ndH : holdsN r.f0 r.f2 (OfD r.f4) 15 nd = !(A && B) := by
      rw [hnd]
      show (!(holdsN r.f0 r.f2 (OfD r.f4) 14 an)) = _
      rw [anH]
    have nrH : holdsN r.f0 r.f2 (OfD r.f4) 15 nr = !(A && B) := by
      rw [hnr]
      show (holdsN r.f0 r.f2 (OfD r.f4) 14 na || (holdsN r.f0 r.f2 (OfD r.f4) 14 nb || false)) = _
      rw [naH, nbH, Bool.or_false]; cases A <;> simp
    rw [← hna, ← hnb, ← han, ← ho, ← hnd, ← hnr]
    have H : ∀ {d : Nat} {x : T25} {v : Bool}, d < 1000 → SmallN d x → cntN d x ≤ 1000 → holdsN r.f0 r.f2 (OfD r.f4) d x = v → mayB d x = true → Ev (fun k => deem_Holds k x r) v := by
      intro d x v hd hs hc hv hm
      have := Holds_ev hd hs hc hrs
      rwa [show holdsD d x r = v by unfold holdsD; rw [hm, hrb, hv]; rfl] at this
    have M : ∀ {d : Nat} {x : T25}, d < 1000 → SmallN d x → cntN d x ≤ 1000 → Ev (fun k => ask_May k x) (mayB d x) := fun hd hs hc => askMay_ev hd hs hc
    refine Ev.bind (H (d := 13) (by decide) h1 (by omega) hA.symm hm) ?_
    refine Ev.bind (H (d := 13) (by decide) h1' (by omega) hB.symm hm') ?_
    have hO := or_tail (A := A) (B := B) (M (d := 14) (by decide) oS.1 (by omega)) (H (d := 14) (by decide) oS.1 (by omega) oH)
    have hN := and_tail (A := A) (B := B) (M (d := 14) (by decide) anS.1 (by omega)) (H (d := 14) (by decide) anS.1 (by omega) anH) hO hO hO
    refine Ev.bind (b := false) (not_tail (A := A) (M (d := 14) (by decide) naS.1 (by omega)) (H (d := 14) (by decide) naS.1 (by omega) naH) hN hN) ?_
    refine Ev.neg Bool.false_ne_true (Ev.bind (b := true) ?_ (Ev.now _))
    have aw : Ev (fun k => (grapevinelaw15_awake k).bind fun t => some t) true := Ev.bind awake_ev (Ev.now _)
    refine Ev.bind (M (d := 15) (by decide) ndS.1 (by omega)) ?_
    refine Ev.ite (fun _ => aw) (fun e1 => ?_)
    refine Ev.bind (M (d := 15) (by decide) nrS.1 (by omega)) ?_
    refine Ev.ite (fun _ => aw) (fun e2 => ?_)
    refine Ev.bind (H (d := 15) (by decide) ndS.1 (by omega) ndH (by simpa using e1)) ?_
    refine Ev.bind (H (d := 15) (by decide) nrS.1 (by omega) nrH (by simpa using e2)) ?_
    exact Ev.pos (by simp) aw
end Go.Proofs.YtbphlohiealbeaaDoor.Pure
