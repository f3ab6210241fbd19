/- Records of unlike keys or stamps; one more record; behind the cursor: plain facts on what is found. -/
import Derived.Test.YtbphlohiealbeaaGreatDoorF0
import Derived.Test.YtbphlohiealbeaaGreatDoorF4
import Derived.Test.YtbphlohiealbeaaGreatDoorPScan2
import Derived.Test.YtbphlohiealbeaaGreatDoorF5
import Derived.Test.YtbphlohiealbeaaGreatDoorF7
import Derived.Test.YtbphlohiealbeaaGreatDoorPAskR
namespace Go.Gp
set_option linter.unusedVariables false
theorem eqv_trans {α : Type} {lt : α → α → Bool} (hw : SWO lt) {x a b : α} (h1 : eqv lt x a = true) (h2 : eqv lt x b = true) : eqv lt a b = true := by
 rw [eqv_iff] at *
 exact ⟨hw.ntr h2.1 h1.2, hw.ntr h1.1 h2.2⟩
theorem SE.perm {α : Type} {lt : α → α → Bool} (hw : SWO lt) {xs ys : List α} (hp : xs.Perm ys) (hk : xs.Pairwise fun a b => eqv lt a b = false) : SE lt xs ys := fun x => by
 have h1 := hp.filter (eqv lt x)
 have h2 := hk.filter (eqv lt x)
 have h3 : ∀ a ∈ xs.filter (eqv lt x), eqv lt x a = true := fun a h => (List.mem_filter.1 h).2
 match h : xs.filter (eqv lt x), h1, h2, h3 with
 | [], h1, _, _ => exact (List.nil_perm.1 h1).symm
 | [a], h1, _, _ => exact List.singleton_perm.1 h1
 | a :: b :: l, _, h2, h3 =>
  have := (List.pairwise_cons.1 h2).1 b (by simp)
  rw [eqv_trans hw (h3 a (by simp)) (h3 b (by simp))] at this
  cases this
theorem SE.pair {α : Type} {lt : α → α → Bool} (hw : SWO lt) {xs ys : List α} (hp : SE lt xs ys) (hk : xs.Pairwise fun a b => eqv lt a b = false) (hs : Srt lt ys) : ys.Pairwise fun a b => lt a b = true := by
 have key : ∀ (us : List α), us.Sublist ys → Srt lt us → us.Pairwise fun a b => lt a b = true := fun us => by
  induction us with
  | nil => intro _ _; exact List.Pairwise.nil
  | cons a us ih =>
   intro h1 h2
   obtain ⟨h3, h4⟩ := List.pairwise_cons.1 h2
   refine List.pairwise_cons.2 ⟨fun b hb => ?_, ih ((List.sublist_cons_self a us).trans h1) h4⟩
   cases e : lt a b with
   | true => rfl
   | false =>
    have e1 : eqv lt a b = true := eqv_iff.2 ⟨e, h3 b hb⟩
    have h5 := (h1.filter (eqv lt a)).length_le
    rw [← hp a] at h5
    have h6 : 2 ≤ ((a :: us).filter (eqv lt a)).length := by
     rw [List.filter_cons_of_pos (hw.eqv_refl a)]
     have : b ∈ us.filter (eqv lt a) := List.mem_filter.2 ⟨hb, e1⟩
     have := List.length_pos_of_mem this
     simp only [List.length_cons]; omega
    have h7 := hk.filter (eqv lt a)
    have h8 : ∀ c ∈ xs.filter (eqv lt a), eqv lt a c = true := fun c h => (List.mem_filter.1 h).2
    match h : xs.filter (eqv lt a), h7, h8 with
    | [], _, _ => rw [h] at h5; simp only [List.length_nil] at h5; omega
    | [c], _, _ => rw [h] at h5; simp only [List.length_singleton] at h5; omega
    | c :: d :: l, h7, h8 =>
     have := (List.pairwise_cons.1 h7).1 d (by simp)
     rw [eqv_trans hw (h8 c (by simp)) (h8 d (by simp))] at this
     cases this
 exact key ys (List.Sublist.refl _) hs
end Go.Gp
namespace Go.Proofs.YtbphlohiealbeaaGreatDoor.Pure
open Go Go.Gg Go.Gp Gf
set_option linter.unusedVariables false
set_option linter.unusedSimpArgs false
def one (q : T33) : T33 := ⟨q.f0, q.f1, q.f2, q.f3, 1, 0, 0, 0, 0, ⟨#[]⟩⟩
end Go.Proofs.YtbphlohiealbeaaGreatDoor.Pure
namespace Go.Proofs.YtbphlohiealbeaaGreatDoor.Pure
open Go Go.Gg Go.Gp Gf
set_option linter.unusedVariables false
set_option linter.unusedSimpArgs false
theorem rLess_some (a b : T31) : grapevineref4_Less a b = some (ltr a b) := by
 unfold grapevineref4_Less grapevineref2_Less grapevineref4_Before ltr
 by_cases h1 : a.f2 < b.f2
 ·simp [h1]
 ·by_cases h2 : a.f2 = b.f2
  ·by_cases h3 : a.f3 < b.f3
   ·simp [h2, h3]
   ·by_cases h4 : a.f3 = b.f3
    ·by_cases h5 : a.f0 < b.f0
     ·simp [h2, h4, h5]
     ·by_cases h6 : a.f0 = b.f0
      ·simp [h2, h4, h6]
      ·simp [h2, h4, h5, h6]
    ·simp [h2, h3, h4]
  ·simp [h1, h2]
theorem rafter_eq (X : Bool) (a b c e : Int) : (((grapevineref4_MayKey (⟨a, b⟩ : T27)).bind fun t4 => (if t4 = true then ((grapevineref2_May (⟨c, e⟩ : T29)).bind fun t9 => (if t9 = true then some X else some false)) else some false)) : Option Bool) =
  some (decide (0 ≤ a ∧ a < 8 ∧ 1 ≤ b ∧ b ≤ 1023 ∧ 0 ≤ c ∧ c ≤ 1099511627776 ∧ 0 ≤ e ∧ e ≤ 65535) && X) := by
 unfold grapevineref4_MayKey grapevineref2_May grapevineref2_in
 by_cases h : 0 ≤ a ∧ a < 8 ∧ 1 ≤ b ∧ b ≤ 1023 ∧ 0 ≤ c ∧ c ≤ 1099511627776 ∧ 0 ≤ e ∧ e ≤ 65535
 ·obtain ⟨h1, h2, h3, h4, h5, h6, h7, h8⟩ := h
  simp [h1, h2, h3, h4, h5, h6, h7, h8]
 ·rw [decide_eq_false h]
  simp only [Bool.false_and]
  by_cases h1 : a ≥ 0
  ·by_cases h2 : a < 8
   ·by_cases h3 : b ≥ 1
    ·by_cases h4 : b ≤ 1023
     ·by_cases h5 : c ≥ 0
      ·by_cases h6 : c ≤ 1099511627776
       ·by_cases h7 : e ≥ 0
        ·have h8 : ¬ e ≤ 65535 := by omega
         simp [h1, h2, h3, h4, h5, h6, h7, h8]
        ·simp [h1, h2, h3, h4, h5, h6, h7]
       ·simp [h1, h2, h3, h4, h5, h6]
      ·simp [h1, h2, h3, h4, h5]
     ·simp [h1, h2, h3, h4]
    ·simp [h1, h2, h3]
   ·simp [h1, h2]
  ·simp [h1]
theorem rMayQuery_ev {d : Nat} (hd : d < 1000) {q : T33} (hs : SmallN d (askOf q)) (hc : cntN d (askOf q) ≤ 1000) : Ev (fun k => grapevineref14_MayQuery k q) (mayQ d q) := by
 unfold grapevineref14_MayQuery mayQ
 obtain ⟨S, hS⟩ : ∃ S, S = (decide (0 ≤ q.f5 ∧ q.f5 < 8 ∧ 1 ≤ q.f6 ∧ q.f6 ≤ 1023 ∧ 0 ≤ q.f7 ∧ q.f7 ≤ 1099511627776 ∧ 0 ≤ q.f8 ∧ q.f8 ≤ 65535) && (q.f9.toList == (⟨#[]⟩ : ByteArray).toList)) := ⟨_, rfl⟩
 rw [rafter_eq, ← hS]
 refine Ev.bind (b := S) (Ev.now S) ?_
 refine Ev.bind (b := (decide (1 ≤ q.f4 ∧ q.f4 ≤ 50) && afterB q) && mayB d (askOf q)) (Ev.bind (b := mayB d (askOf q)) (rAskMay_ev hd hs hc) ?_) (Ev.now _)
 cases hm : mayB d (askOf q) with
 | false => exact Ev.neg Bool.false_ne_true ((Ev.now _).is (by simp))
 | true =>
  refine Ev.pos rfl ?_
  simp only [Bool.and_true]
  by_cases c1 : q.f4 ≥ 1
  ·refine Ev.pos c1 ?_
   by_cases c2 : q.f4 ≤ 50
   ·refine Ev.pos c2 ?_
    rw [decide_eq_true (p := 1 ≤ q.f4 ∧ q.f4 ≤ 50) ⟨c1, c2⟩]
    by_cases c3 : (⟨q.f5, q.f6, q.f7, q.f8, q.f9⟩ : T31) = ⟨0, 0, 0, 0, ⟨#[]⟩⟩
    ·refine Ev.pos c3 ((Ev.now _).is ?_)
     unfold afterB
     rw [decide_eq_true (show afterOf q = ⟨0, 0, 0, 0, ⟨#[]⟩⟩ from c3)]; rfl
    ·refine Ev.neg c3 ((Ev.now _).is ?_)
     unfold afterB
     rw [decide_eq_false (show ¬ afterOf q = ⟨0, 0, 0, 0, ⟨#[]⟩⟩ from c3), hS]
     simp only [Bool.true_and, Bool.false_or]
     cases h9 : (q.f9.toList == (⟨#[]⟩ : ByteArray).toList) with
     | false => simp
     | true =>
      have e9 : q.f9 = ⟨#[]⟩ := (bytes_eq _ _).1 h9
      have : recB (afterOf q) = decide (0 ≤ q.f5 ∧ q.f5 < 8 ∧ 1 ≤ q.f6 ∧ q.f6 ≤ 1023 ∧ 0 ≤ q.f7 ∧ q.f7 ≤ 1099511627776 ∧ 0 ≤ q.f8 ∧ q.f8 ≤ 65535) := by
       unfold recB
       have ef : (afterOf q).f4 = ⟨#[]⟩ := e9
       rw [ef]
       have e1 : decide ((⟨#[]⟩ : ByteArray).size ≤ 120) = true := rfl
       have e2 : Lib.validD (⟨#[]⟩ : ByteArray).data.toList = true := by decide +kernel
       rw [e1, e2]; simp only [Bool.and_true]; rfl
      rw [this]; simp
   ·refine Ev.neg c2 ((Ev.now _).is ?_)
    rw [decide_eq_false (by omega)]; rfl
  ·refine Ev.neg c1 ((Ev.now _).is ?_)
   rw [decide_eq_false (by omega)]; rfl
theorem mayQ_lim {d : Nat} {q : T33} (h : mayQ d q = true) : 1 ≤ q.f4 ∧ q.f4 ≤ 50 := by
 unfold mayQ at h
 simp only [Bool.and_eq_true, decide_eq_true_eq] at h
 exact h.1.1
theorem mayQ_seq {d : Nat} {q : T33} (h : mayQ d q = true) (h6 : q.f6 ≠ 0) : q.f6 > 0 := by
 unfold mayQ afterB at h
 simp only [Bool.and_eq_true, Bool.or_eq_true, decide_eq_true_eq] at h
 rcases h.1.2 with h | h
 ·exact absurd (congrArg T31.f1 h) h6
 ·have := h.2
  unfold recB at this
  simp only [Bool.and_eq_true, decide_eq_true_eq] at this
  have e : (afterOf q).f1 = q.f6 := rfl
  rw [e] at this
  omega
end Go.Proofs.YtbphlohiealbeaaGreatDoor.Pure
