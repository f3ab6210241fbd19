/- The document's own answers on queries, and the order of records. -/
import Derived.Test.YtbphlohiealbeaaGreatDoorF5
import Derived.Test.YtbphlohiealbeaaGreatDoorF7
import Derived.Test.YtbphlohiealbeaaGreatDoorPAskR
import Derived.Test.YtbphlohiealbeaaGreatDoorPScan2
import Derived.Test.YtbphlohiealbeaaGreatDoorF8
import Derived.Test.YtbphlohiealbeaaGreatDoorF9
namespace Go.Proofs.YtbphlohiealbeaaGreatDoor.Pure
open Go Go.Gg Go.Gp Gf
set_option linter.unusedVariables false
set_option linter.unusedSimpArgs false
theorem rLess_some (a b : T31) : grapevineref4_Less a b = some (ltr a b) := by
 unfold grapevineref4_Less grapevineref2_Less grapevineref4_Before ltr; by_cases h1 : a.f2 < b.f2
 ·simp [h1]
 ·by_cases h2 : a.f2 = b.f2
  ·by_cases h3 : a.f3 < b.f3
   ·simp [h2, h3]
   ·by_cases h4 : a.f3 = b.f3
    ·by_cases h5 : a.f0 < b.f0
     ·simp [h2, h4, h5]
     ·by_cases h6 : a.f0 = b.f0
      ·simp [h2, h4, h6]
      ·simp [h2, h4, h5, h6]
    ·simp [h2, h3, h4]
  ·simp [h1, h2]
theorem rafter_eq (X : Bool) (a b c e : Int) : (((grapevineref4_MayKey (⟨a, b⟩ : T27)).bind fun t4 => (if t4 = true then ((grapevineref2_May (⟨c, e⟩ : T29)).bind fun t9 => (if t9 = true then some X else some false)) else some false)) : Option Bool) =
  some (decide (0 ≤ a ∧ a < 8 ∧ 1 ≤ b ∧ b ≤ 1023 ∧ 0 ≤ c ∧ c ≤ 1099511627776 ∧ 0 ≤ e ∧ e ≤ 65535) && X) := by
 unfold grapevineref4_MayKey grapevineref2_May grapevineref2_in; by_cases h : 0 ≤ a ∧ a < 8 ∧ 1 ≤ b ∧ b ≤ 1023 ∧ 0 ≤ c ∧ c ≤ 1099511627776 ∧ 0 ≤ e ∧ e ≤ 65535
 ·obtain ⟨h1, h2, h3, h4, h5, h6, h7, h8⟩ := h; simp [h1, h2, h3, h4, h5, h6, h7, h8]
 ·rw [decide_eq_false h]; simp only [Bool.false_and]; by_cases h1 : a ≥ 0
  ·by_cases h2 : a < 8
   ·by_cases h3 : b ≥ 1
    ·by_cases h4 : b ≤ 1023
     ·by_cases h5 : c ≥ 0
      ·by_cases h6 : c ≤ 1099511627776
       ·by_cases h7 : e ≥ 0
        ·have h8 : ¬ e ≤ 65535 := by omega
         simp [h1, h2, h3, h4, h5, h6, h7, h8]
        ·simp [h1, h2, h3, h4, h5, h6, h7]
       ·simp [h1, h2, h3, h4, h5, h6]
      ·simp [h1, h2, h3, h4, h5]
     ·simp [h1, h2, h3, h4]
    ·simp [h1, h2, h3]
   ·simp [h1, h2]
  ·simp [h1]
theorem rMayQuery_ev {d : Nat} (hd : d < 1000) {q : T33} (hs : SmallN d (askOf q)) (hc : cntN d (askOf q) ≤ 1000) : Ev (fun k => grapevineref14_MayQuery k q) (mayQ d q) := by
 unfold grapevineref14_MayQuery mayQ; obtain ⟨S, hS⟩ : ∃ S, S = (decide (0 ≤ q.f5 ∧ q.f5 < 8 ∧ 1 ≤ q.f6 ∧ q.f6 ≤ 1023 ∧ 0 ≤ q.f7 ∧ q.f7 ≤ 1099511627776 ∧ 0 ≤ q.f8 ∧ q.f8 ≤ 65535) && (q.f9.toList == (⟨#[]⟩ : ByteArray).toList)) := ⟨_, rfl⟩; rw [rafter_eq, ← hS]; refine Ev.bind (b := S) (Ev.now S) ?_; refine Ev.bind (b := (decide (1 ≤ q.f4 ∧ q.f4 ≤ 50) && afterB q) && mayB d (askOf q)) (Ev.bind (b := mayB d (askOf q)) (rAskMay_ev hd hs hc) ?_) (Ev.now _)
 cases hm : mayB d (askOf q) with
 | false => exact Ev.neg Bool.false_ne_true ((Ev.now _).is (by simp))
 | true =>
  refine Ev.pos rfl ?_; simp only [Bool.and_true]; by_cases c1 : q.f4 ≥ 1
  ·refine Ev.pos c1 ?_; by_cases c2 : q.f4 ≤ 50
   ·refine Ev.pos c2 ?_; rw [decide_eq_true (p := 1 ≤ q.f4 ∧ q.f4 ≤ 50) ⟨c1, c2⟩]; by_cases c3 : (⟨q.f5, q.f6, q.f7, q.f8, q.f9⟩ : T31) = ⟨0, 0, 0, 0, ⟨#[]⟩⟩
    ·refine Ev.pos c3 ((Ev.now _).is ?_); unfold afterB; rw [decide_eq_true (show afterOf q = ⟨0, 0, 0, 0, ⟨#[]⟩⟩ from c3)]; rfl
    ·refine Ev.neg c3 ((Ev.now _).is ?_); unfold afterB; rw [decide_eq_false (show ¬ afterOf q = ⟨0, 0, 0, 0, ⟨#[]⟩⟩ from c3), hS]; simp only [Bool.true_and, Bool.false_or]
     cases h9 : (q.f9.toList == (⟨#[]⟩ : ByteArray).toList) with
     | false => simp
     | true =>
      have e9 : q.f9 = ⟨#[]⟩ := (bytes_eq _ _).1 h9; have : recB (afterOf q) = decide (0 ≤ q.f5 ∧ q.f5 < 8 ∧ 1 ≤ q.f6 ∧ q.f6 ≤ 1023 ∧ 0 ≤ q.f7 ∧ q.f7 ≤ 1099511627776 ∧ 0 ≤ q.f8 ∧ q.f8 ≤ 65535) := by
       unfold recB; have ef : (afterOf q).f4 = ⟨#[]⟩ := e9; rw [ef]; have e1 : decide ((⟨#[]⟩ : ByteArray).size ≤ 120) = true := rfl; have e2 : Lib.validD (⟨#[]⟩ : ByteArray).data.toList = true := by decide +kernel
       rw [e1, e2]; simp only [Bool.and_true]; rfl
      rw [this]; simp
   ·refine Ev.neg c2 ((Ev.now _).is ?_); rw [decide_eq_false (by omega)]; rfl
  ·refine Ev.neg c1 ((Ev.now _).is ?_); rw [decide_eq_false (by omega)]; rfl
theorem mayQ_lim {d : Nat} {q : T33} (h : mayQ d q = true) : 1 ≤ q.f4 ∧ q.f4 ≤ 50 := by
 unfold mayQ at h; simp only [Bool.and_eq_true, decide_eq_true_eq] at h; exact h.1.1
theorem mayQ_seq {d : Nat} {q : T33} (h : mayQ d q = true) (h6 : q.f6 ≠ 0) : q.f6 > 0 := by
 unfold mayQ afterB at h; simp only [Bool.and_eq_true, Bool.or_eq_true, decide_eq_true_eq] at h; rcases h.1.2 with h | h
 ·exact absurd (congrArg T31.f1 h) h6
 ·have := h.2; unfold recB at this; simp only [Bool.and_eq_true, decide_eq_true_eq] at this; have e : (afterOf q).f1 = q.f6 := rfl; rw [e] at this; omega
end Go.Proofs.YtbphlohiealbeaaGreatDoor.Pure
namespace Go.Proofs.YtbphlohiealbeaaGreatDoor.Pure
open Go Go.Gg Go.Gp Gf
set_option linter.unusedVariables false
set_option linter.unusedSimpArgs false
theorem rplace_ev (l0 ys : List T31) (i : Nat) (hi : i < l0.length) : ∀ (n : Nat) (u1 u2 : List T31), u1.length = n → ys = u1 ++ u2 → ys.length < 1073741824 → (∀ y ∈ u2, ltr (l0.getD i z31) y = true) →
  ∃ v1 v2, ys = v1 ++ v2 ∧ (∀ y ∈ v2, ltr (l0.getD i z31) y = true) ∧ (∀ u y, v1 = u ++ [y] → ltr (l0.getD i z31) y = false) ∧
   Ev (fun k => grapevineref4_Sort_l1 l0 ys (i : Int) k (u1.length : Int)) (v1.length : Int) := by
 intro n
 induction n with
 | zero =>
  intro u1 u2 hn hy hl h; have : u1 = [] := List.eq_nil_of_length_eq_zero hn; subst this; refine ⟨[], ys, rfl, by rw [hy]; simpa using h, by simp, Ev.step (g := fun _ => some 0) (fun k => ?_) (Ev.now _)⟩; rw [grapevineref4_Sort_l1, if_neg (by simp)]; rfl
 | succ n ih =>
  intro u1 u2 hn hy hl h; obtain ⟨u', u, rfl⟩ : ∃ us' u, u1 = us' ++ [u] := ⟨u1.dropLast, u1.getLast (by intro h; rw [h] at hn; simp at hn), (List.dropLast_concat_getLast _).symm⟩; simp only [List.length_append, List.length_singleton] at hn; have hyl : ys.length = u'.length + 1 + u2.length := by rw [hy]; simp; omega
  have e1 : IntKind.i64.wrap (((u' ++ [u]).length : Int) - 1) = (u'.length : Int) := by rw [i64w (by simp; omega)]; simp
  have eg : ys.getD u'.length z31 = u := by
   rw [hy, List.append_assoc]; have := getD_app_right u' ([u] ++ u2) z31 0; exact this
  have hs : ∀ k, grapevineref4_Sort_l1 l0 ys (i : Int) (k + 1) ((u' ++ [u]).length : Int) = if ltr (l0.getD i z31) u = true then grapevineref4_Sort_l1 l0 ys (i : Int) k (u'.length : Int) else some ((u' ++ [u]).length : Int) := fun k => by
   rw [grapevineref4_Sort_l1, if_pos (by simp), e1, if_pos (by omega), if_pos (by omega)]; simp only [Int.toNat_natCast, eg, rLess_some, Option.bind_some]
  cases e : ltr (l0.getD i z31) u
  ·refine ⟨u' ++ [u], u2, hy, h, fun w y hw => ?_, Ev.step (g := fun _ => some ((u' ++ [u]).length : Int)) (fun k => by rw [hs, e]; rfl) (Ev.now _)⟩; have := List.append_inj_right' hw (by simp); simp at this; subst this; exact e
  ·obtain ⟨v1, v2, g1, g2, g3, g4⟩ := ih u' (u :: u2) (by omega) (by rw [hy]; simp) hl (fun y hy => by
    rcases List.mem_cons.1 hy with rfl | hy
    ·exact e
    ·exact h y hy)
   exact ⟨v1, v2, g1, g2, g3, Ev.step (fun k => by rw [hs, e]; rfl) g4⟩
theorem rSort_ev (xs : List T31) (hl : xs.length < 1073741824) : ∃ t, Srt ltr t ∧ SE ltr xs t ∧ Ev (fun k => grapevineref4_Sort k xs) t := by
 have key : ∀ (n i : Nat) (ys : List T31), i + n = xs.length → Srt ltr ys → SE ltr (xs.take i) ys → ∃ t, Srt ltr t ∧ SE ltr xs t ∧ Ev (fun k => grapevineref4_Sort_l0 xs k ys (i : Int)) t := by
  intro n
  induction n with
  | zero =>
   intro i ys hi hs he; refine ⟨ys, hs, by rw [List.take_of_length_le (by omega)] at he; exact he, Ev.step (g := fun _ => some ys) (fun k => ?_) (Ev.now _)⟩; rw [grapevineref4_Sort_l0, if_neg (by omega)]
  | succ n ih =>
   intro i ys hi hs he; have hyl := SE.length he; rw [List.length_take] at hyl; obtain ⟨v1, v2, g1, g2, g3, g4⟩ := rplace_ev xs ys i (by omega) ys.length ys [] rfl (by simp) (by omega) (by simp); have hs' := hs; rw [g1] at hs'; obtain ⟨q1, q2, q3⟩ := List.pairwise_append.1 hs'; have hyl2 : ys.length = v1.length + v2.length := by rw [g1]; simp
   obtain ⟨x, hx⟩ : ∃ x, x = xs.getD i z31 := ⟨_, rfl⟩; rw [← hx] at g2 g3; have hsrt : Srt ltr (v1 ++ x :: v2) := by
    refine Srt.append q1 (List.pairwise_cons.2 ⟨fun y hy => ltr_swo.asym (g2 y hy), q2⟩) fun y hy z hz => ?_
    rcases List.mem_cons.1 hz with rfl | hz
    ·obtain ⟨j, hj, e⟩ := List.mem_iff_getElem.1 hy; have hne : v1 ≠ [] := fun h => by rw [h] at hy; cases hy
     have hlast := g3 v1.dropLast (v1.getLast hne) (List.dropLast_concat_getLast hne).symm; have : ltr (v1.getLast hne) y = false := by
      have h5 := srt_getD q1 (i := j) (j := v1.length - 1) (by omega) (by omega); rw [getD_eq v1 z31 hj, getD_eq v1 z31 (by omega), e] at h5; rw [List.getLast_eq_getElem]; exact h5
     exact ltr_swo.ntr this hlast
    ·exact q3 y hy z hz
   have hse : SE ltr (xs.take (i + 1)) (v1 ++ x :: v2) := by
    rw [take_getD xs z31 (by omega), ← hx]; have h5 : SE ltr (v2 ++ [x]) ([x] ++ v2) := SE.swap ltr_swo fun a ha y hy => by simp at hy; subst hy; exact g2 a ha
    have h6 := he.append (SE.refl [x]); rw [g1] at h6; refine h6.trans ?_; have h7 := (SE.refl v1).append h5; simpa using h7
   obtain ⟨t, k1, k2, k3⟩ := ih (i + 1) (v1 ++ x :: v2) (by omega) hsrt hse; have g5 : Ev (fun k => grapevineref4_Sort_l0 xs (k + 1) ys (i : Int)) t := by
    have hs : ∀ k, grapevineref4_Sort_l0 xs (k + 1) ys (i : Int) = _ := fun k => by rw [grapevineref4_Sort_l0, if_pos (show (i : Int) < (xs.length : Int) by omega), i64w (x := (i : Int) + 1) (by omega)]
    refine Ev.congr hs (Ev.bind g4 (Ev.bind (b := v1 ++ x :: v2) ((Ev.now _).congr fun k => ?_) k3)); have t1 : ys.take v1.length = v1 := by rw [g1]; simp
    have t2 : ys.drop v1.length = v2 := by rw [g1]; simp
    have t3 : (ys.take (ys.length : Int).toNat) = ys := by simp
    have t0 : (0 : Int).toNat = 0 := rfl; simp only [Int.toNat_natCast, t0, List.drop_zero, t1, t2, t3, List.take_length, List.nil_append, ← hx]; rw [if_pos (by omega), if_pos (by omega), if_pos (by omega), if_pos (by simp; omega), if_pos (by simp; omega), if_pos (by simp; omega)]; simp
   exact ⟨t, k1, k2, Ev.step (fun k => rfl) g5⟩
 obtain ⟨t, h1, h2, h3⟩ := key xs.length 0 [] (by simp) List.Pairwise.nil (SE.refl _); exact ⟨t, h1, h2, Ev.bind h3 (Ev.now _)⟩
end Go.Proofs.YtbphlohiealbeaaGreatDoor.Pure
