
import Derived.Test.YtmgkpphbehamcaaGreatDoorF0
import Derived.Test.YtmgkpphbehamcaaGreatDoorPTok
namespace Go.Gp
open Go Go.Gg
theorem Ev.shift {α : Type} {f : Nat → Option α} {r : α} (h : Ev f r) : Ev (fun k => f (k + 1)) r := by
 obtain ⟨K, h⟩ := h; exact ⟨K, fun k hk => h (k + 1) (by omega)⟩
end Go.Gp
namespace Go.Proofs.YtmgkpphbehamcaaGreatDoor.Pure
open Go Go.Gg Go.Gp Gf
set_option linter.unusedVariables false
set_option linter.unusedSimpArgs false
def cntN : Nat → T26 → Int
 | 0, _ => 0
 | d + 1, x => 1 + (x.f3.map (cntN d)).sum
def SmallN : Nat → T26 → Prop
 | 0, _ => False
 | d + 1, x => x.f2.length ≤ 300 ∧ (∀ w ∈ x.f2, w.size ≤ 5000) ∧ x.f3.length ≤ 1000 ∧ ∀ s ∈ x.f3, SmallN d s
theorem GreatTexts_ev (l : List ByteArray) (m : Int) (b : Int) (hm : 0 ≤ m ∧ m < 1000) : ∃ r, Ev (fun k => grapevinelaw0_GreatTexts k l m b) r ∧ (r = false → (l.length : Int) ≤ m ∧ ∀ w ∈ l, (w.size : Int) ≤ b) := by
 by_cases h : (l.length : Int) ≤ m
 case neg =>
  refine ⟨true, ?_, fun e => by cases e⟩; refine Ev.bind (b := Sum.inr ()) (Ev.step (fun k => by rw [grapevinelaw0_GreatTexts_l0]) ?_) ((Ev.now _).is (decide_eq_true (by omega))); refine Ev.bind (b := false) ?_ (Ev.neg (by simp) (Ev.now _)); exact Ev.ite (fun _ => (Ev.now _).is (decide_eq_false h)) (fun _ => Ev.now _)
 obtain ⟨r, hr, hE⟩ := Ev.loop (F := fun k (s : Int) => grapevinelaw0_GreatTexts_l0 l m b k s) (fun s n => 0 ≤ s ∧ s + n = l.length ∧ ∀ i, i < s.toNat → ((l.getD i ⟨#[]⟩).size : Int) ≤ b) (fun r => r = Sum.inl true ∨ (r = Sum.inr () ∧ ∀ w ∈ l, (w.size : Int) ≤ b)) (fun s n hI => by
  obtain ⟨h0, hn, hall⟩ := hI; by_cases h1 : s < (l.length : Int)
  ·by_cases h2 : ((l.getD s.toNat ⟨#[]⟩).size : Int) > b
   ·refine .inl ⟨Sum.inl true, .inl rfl, ?_⟩; refine Ev.step (fun k => by rw [grapevinelaw0_GreatTexts_l0]) ?_; refine Ev.bind (b := true) (Ev.pos h1 ((Ev.now _).is (decide_eq_true h))) ?_; exact Ev.pos rfl (Ev.pos (by omega) (Ev.pos h2 (Ev.now _)))
   ·refine .inr ⟨s + 1, n - 1, by omega, ⟨by omega, by omega, fun i hi => ?_⟩, fun r H => ?_⟩
    ·by_cases e : i = s.toNat
     ·rw [e]; omega
     ·exact hall i (by omega)
    ·refine Ev.step (fun k => by rw [grapevinelaw0_GreatTexts_l0]) ?_; refine Ev.bind (b := true) (Ev.pos h1 ((Ev.now _).is (decide_eq_true h))) ?_; refine Ev.pos rfl (Ev.pos (by omega) (Ev.neg h2 ?_)); rw [i64w (by omega)]; exact H
  ·refine .inl ⟨Sum.inr (), .inr ⟨rfl, fun w hw => ?_⟩, ?_⟩
   ·obtain ⟨i, hi, rfl⟩ := List.mem_iff_getElem.1 hw; have := hall i (by omega)
    rwa [getD_eq _ _ hi] at this
   ·refine Ev.step (fun k => by rw [grapevinelaw0_GreatTexts_l0]) ?_; refine Ev.bind (b := false) (Ev.neg h1 (Ev.now _)) ?_; exact Ev.neg (by simp) (Ev.now _)) 0 l.length ⟨by omega, by omega, fun i hi => absurd hi (by simp)⟩
 rcases hr with rfl | ⟨rfl, hw⟩
 ·exact ⟨true, Ev.bind hE (Ev.now _), fun e => by cases e⟩
 ·exact ⟨false, Ev.bind hE ((Ev.now _).is (decide_eq_false (by omega))), fun _ => ⟨h, hw⟩⟩
theorem cntN_pos : ∀ (d : Nat) (x : T26), 0 ≤ cntN d x
 | 0, x => by simp [cntN]
 | d + 1, x => by
  have key : ∀ l : List T26, 0 ≤ (l.map (cntN d)).sum := by
   intro l
   induction l with
   | nil => simp
   | cons y t ih => have := cntN_pos d y; simp; omega
  have := key x.f3; simp only [cntN]; omega
theorem sum_pos (d : Nat) (l : List T26) : 0 ≤ (l.map (cntN d)).sum := by
 induction l with
 | nil => simp
 | cons y t ih => have := cntN_pos d y; simp; omega
theorem sum_len (d : Nat) : ∀ (l : List T26), (∀ x ∈ l, SmallN d x) → (l.length : Int) ≤ (l.map (cntN d)).sum
 | [], _ => by simp
 | y :: t, h => by
  have h1 := sum_len d t (fun x hx => h x (by simp [hx])); have h2 : 1 ≤ cntN d y := by
   cases d with
   | zero => exact (h y (by simp)).elim
   | succ d => have := sum_pos d y.f3; simp only [cntN]; omega
  simp only [List.length_cons, List.map_cons, List.sum_cons]; omega
def Good (d : Nat) (l : List T26) (r : Int) : Prop := (∀ x ∈ l, SmallN d x) ∧ r = (l.map (cntN d)).sum
def PartsOk (d : Nat) (l : List T26) (m r : Int) : Prop := 0 ≤ r ∧ r ≤ m + 1 ∧ (r ≤ m → Good d l r)
theorem parts_loop (d : Nat) (hd : d < 1000) (l : List T26) (m : Int) (hm : -1 ≤ m ∧ m ≤ 60) : ∀ (q : Nat) (n : Int) (i : Nat) (R : Nat → List T26 → Int → Int → Option Int),
  (∀ l' m', -1 ≤ m' ∧ m' ≤ 60 → ∃ r, Ev (fun k => R k l' m' ((d : Int) - 1)) r ∧ PartsOk d l' m' r) → (m - n + 1).toNat ≤ q → 0 ≤ n → n ≤ m + 1 → (i : Int) ≤ n → (n ≤ m → Good (d + 1) (l.take i) n) →
  ∃ r, Ev (fun k => grapevinelaw0_parts_l0 l m (d : Int) (R k) k n (i : Int)) r ∧ (r = Sum.inl (m + 1) ∨ ∃ z, r = Sum.inr z ∧ PartsOk (d + 1) l m z)
 | q, n, i, R, hR, hq, h0, h1, hi, hg => by
  by_cases hc : (i : Int) < (l.length : Int) ∧ n ≤ m
  case neg =>
   refine ⟨Sum.inr n, ?_, .inr ⟨n, rfl, h0, h1, fun h => ?_⟩⟩
   ·refine Ev.step (fun k => by rw [grapevinelaw0_parts_l0]) ?_; refine Ev.bind (b := false) ?_ (Ev.neg Bool.false_ne_true (Ev.now _)); by_cases hl : (i : Int) < (l.length : Int)
    ·exact Ev.pos hl ((Ev.now _).is (decide_eq_false fun e => hc ⟨hl, e⟩))
    ·exact Ev.neg hl (Ev.now _)
   ·have := hg h
    rwa [List.take_of_length_le (by omega)] at this
  obtain ⟨hl, hnm⟩ := hc; have hil : i < l.length := by omega
  have hat : ((i : Nat) : Int).toNat = i := by omega
  obtain ⟨gt, hgt, hgs⟩ := GreatTexts_ev ((l.getD i z26).f2) 30 100 (by omega)
  cases gt with
  | true =>
   refine ⟨Sum.inl (m + 1), ?_, .inl rfl⟩; refine Ev.step (fun k => by rw [grapevinelaw0_parts_l0]) ?_; refine Ev.bind (b := true) (Ev.pos hl ((Ev.now _).is (decide_eq_true hnm))) ?_; refine Ev.pos rfl ?_; refine Ev.pos (by omega) ?_; rw [hat]; refine Ev.bind hgt (Ev.pos rfl ((Ev.now _).is ?_)); rw [i64w (by omega)]
  | false =>
   obtain ⟨hw1, hw2⟩ := hgs rfl; obtain ⟨r, hr, hr0, hr1, hrg⟩ := hR ((l.getD i z26).f3) (m - n - 1) (by omega); have hn' : (m - (n + 1 + r) + 1).toNat < q ∨ (m - (n + 1 + r) + 1).toNat < q := by left; omega
   obtain ⟨q', rfl⟩ : ∃ q', q = q' + 1 := ⟨q - 1, by omega⟩; obtain ⟨res, hres, hP⟩ := parts_loop d hd l m hm q' (n + 1 + r) (i + 1) (fun k => R (k + 1)) (fun l' m' h => by
     obtain ⟨r, a, b⟩ := hR l' m' h; exact ⟨r, a.shift, b⟩) (by omega) (by omega) (by omega) (by omega) (fun h => by
     obtain ⟨g1, g2⟩ := hg hnm; obtain ⟨s1, s2⟩ := hrg (by omega); have hlen := sum_len d _ s1; refine ⟨fun x hx => ?_, ?_⟩
     ·rw [take_getD l z26 hil] at hx; rcases List.mem_append.1 hx with hx | hx
      ·exact g1 x hx
      ·simp only [List.mem_singleton] at hx; subst hx; exact ⟨by omega, fun w hw => by have := hw2 w hw; omega, by omega, s1⟩
     ·rw [take_getD l z26 hil, List.map_append, List.sum_append, ← g2]; simp only [List.map_cons, List.map_nil, List.sum_cons, List.sum_nil, cntN]; omega)
   refine ⟨res, ?_, hP⟩; refine Ev.step (fun k => by rw [grapevinelaw0_parts_l0]) ?_; refine Ev.bind (b := true) (Ev.pos hl ((Ev.now _).is (decide_eq_true hnm))) ?_; refine Ev.pos rfl ?_; refine Ev.pos (by omega) ?_; rw [hat]; refine Ev.bind hgt (Ev.neg (by simp) (Ev.pos (by omega) ?_)); rw [i64w (show -9223372036854775808 ≤ m - n ∧ m - n < 9223372036854775808 by omega), i64w (show -9223372036854775808 ≤ m - n - 1 ∧ m - n - 1 < 9223372036854775808 by omega), i64w (show -9223372036854775808 ≤ (d : Int) - 1 ∧ (d : Int) - 1 < 9223372036854775808 by omega)]; refine Ev.bind hr.shift ?_; rw [i64w (show -9223372036854775808 ≤ n + 1 ∧ n + 1 < 9223372036854775808 by omega), i64w (show -9223372036854775808 ≤ n + 1 + r ∧ n + 1 + r < 9223372036854775808 by omega), i64w (by omega), show ((i : Nat) : Int) + 1 = ((i + 1 : Nat) : Int) by omega]; exact hres
theorem parts_ev : ∀ (d : Nat), d < 1000 → ∀ (l : List T26) (m : Int), -1 ≤ m ∧ m ≤ 60 → ∃ r, Ev (fun k => grapevinelaw0_parts k l m ((d : Int) - 1)) r ∧ PartsOk d l m r
 | 0, _, l, m, hm => by
  refine ⟨m + 1, Ev.step (fun k => by rw [grapevinelaw0_parts]) (Ev.pos (by omega) ((Ev.now _).is (by rw [i64w (by omega)]))), by omega, by omega, fun h => by omega⟩
 | d + 1, hd, l, m, hm => by
  obtain ⟨r, hr, hP⟩ := parts_loop d (by omega) l m hm _ 0 0 (fun k => grapevinelaw0_parts k) (fun l' m' h => parts_ev d (by omega) l' m' h) (Nat.le_refl _) (by omega) (by omega) (by omega) (fun _ => ⟨by simp, by simp⟩); have e : (((d + 1 : Nat) : Int) - 1) = (d : Int) := by omega
  rw [e]; have hr' : Ev (fun k => grapevinelaw0_parts_l0 l m (d : Int) (grapevinelaw0_parts k) k 0 0) r := hr; have go : ∀ z, (match r with | Sum.inl r => r | Sum.inr s2 => s2) = z → Ev (fun k => grapevinelaw0_parts k l m (d : Int)) z := by
   intro z hz; refine Ev.step (fun k => by rw [grapevinelaw0_parts]) ?_; refine Ev.neg (by omega) ?_; refine Ev.bind hr' ?_
   cases r with
   | inl r => exact (Ev.now _).is hz
   | inr r => exact (Ev.now _).is hz
  rcases hP with rfl | ⟨z, rfl, hz⟩
  ·exact ⟨m + 1, go _ rfl, by omega, by omega, fun h => by omega⟩
  ·exact ⟨z, go _ rfl, hz⟩
theorem GreatAsk_ev (a : T26) : ∃ r, Ev (fun k => grapevinelaw0_GreatAsk k a) r ∧ (r = false → SmallN 13 a ∧ cntN 13 a ≤ 60) := by
 obtain ⟨r, hr, h0, h1, hg⟩ := parts_ev 13 (by omega) [a] 60 (by omega); refine ⟨decide (r > 60), Ev.bind hr (Ev.now _), fun h => ?_⟩; have : r ≤ 60 := by simpa using h
 obtain ⟨g1, g2⟩ := hg this; simp at g2; exact ⟨g1 a (by simp), by omega⟩
end Go.Proofs.YtmgkpphbehamcaaGreatDoor.Pure
