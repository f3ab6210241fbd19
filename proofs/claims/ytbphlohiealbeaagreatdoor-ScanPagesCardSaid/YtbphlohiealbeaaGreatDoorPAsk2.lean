
import Derived.Test.YtbphlohiealbeaaGreatDoorF0
import Derived.Test.YtbphlohiealbeaaGreatDoorPAsk
import Derived.Test.YtbphlohiealbeaaGreatDoorF1
namespace Go.Proofs.YtbphlohiealbeaaGreatDoor.Pure
open Go Go.Gg Go.Gp Gf
set_option linter.unusedVariables false
set_option linter.unusedSimpArgs false
theorem eta25 (x : T25) : (⟨x.f0, x.f1, x.f2, x.f3⟩ : T25) = x := by cases x; rfl
def mx (a b : Int) : Int := if b > a then b else a
def deepN : Nat → T25 → Int
 | 0, _ => 0
 | d + 1, x => ((x.f3.map (deepN d)).foldl mx 0) + 1
def termsN : Nat → T25 → Int
 | 0, _ => 0
 | d + 1, x => if x.f3 = [] then mx (x.f2.length : Int) 1 else (x.f3.map (termsN d)).sum
theorem mx_fold : ∀ (l : List Int) (a b : Int), 0 ≤ a → a ≤ b → (∀ x ∈ l, 0 ≤ x ∧ x ≤ b) → 0 ≤ l.foldl mx a ∧ l.foldl mx a ≤ b
 | [], a, b, h0, h1, _ => ⟨h0, h1⟩
 | x :: t, a, b, h0, h1, h => by
  have hx := h x (by simp); have : 0 ≤ mx a x ∧ mx a x ≤ b := by unfold mx; split <;> omega
  exact mx_fold t (mx a x) b this.1 this.2 (fun y hy => h y (by simp [hy]))
theorem deepN_bound : ∀ (d : Nat) (x : T25), 0 ≤ deepN d x ∧ deepN d x ≤ d
 | 0, x => by simp [deepN]
 | d + 1, x => by
  have := mx_fold (x.f3.map (deepN d)) 0 d (by omega) (by omega) (fun y hy => by
   obtain ⟨z, _, rfl⟩ := List.mem_map.1 hy; exact deepN_bound d z)
  simp only [deepN]; omega
theorem Deep_loop (x : T25) (g : T25 → Int) (hl : x.f3.length < 4294967296) : ∀ (n i : Nat) (acc : Int) (R : Nat → T25 → Option Int), (∀ s ∈ x.f3, Ev (fun k => R k s) (g s)) → i + n = x.f3.length →
  Ev (fun k => ask_Deep_l0 x (R k) k acc (i : Int)) (((x.f3.drop i).map g).foldl mx acc)
 | 0, i, acc, R, hR, hn => by
  refine Ev.step (fun k => by rw [ask_Deep_l0]) ?_; refine Ev.neg (by omega) ((Ev.now _).is ?_); rw [List.drop_eq_nil_of_le (by omega)]; rfl
 | n + 1, i, acc, R, hR, hn => by
  have hi : i < x.f3.length := by omega
  refine Ev.step (fun k => by rw [ask_Deep_l0]) ?_; refine Ev.pos (by omega) ?_; refine Ev.pos (by omega) ?_; rw [show ((i : Nat) : Int).toNat = i by omega]; rw [eta25]; refine Ev.bind (hR _ (getD_mem x.f3 z25 hi)).shift ?_; rw [i64w (by omega), show ((i : Nat) : Int) + 1 = ((i + 1 : Nat) : Int) by omega, drop_getD x.f3 z25 hi]; exact Deep_loop x g hl n (i + 1) (mx acc (g (x.f3.getD i z25))) (fun k => R (k + 1)) (fun s hs => (hR s hs).shift) (by omega)
theorem Deep_ev : ∀ (d : Nat) (x : T25), d < 1000 → SmallN d x → Ev (fun k => ask_Deep k x) (deepN d x)
 | 0, x, _, h => h.elim
 | d + 1, x, hd, ⟨h1, h2, h3, h4⟩ => by
  refine Ev.step (fun k => by rw [ask_Deep]) ?_; refine Ev.bind (Deep_loop x (deepN d) (by omega) x.f3.length 0 0 (fun k => ask_Deep k) (fun s hs => Deep_ev d s (by omega) (h4 s hs)) (by omega)) ?_; have := deepN_bound (d + 1) x; simp only [deepN] at this; refine (Ev.now _).is ?_; rw [List.drop_zero, i64w (by omega)]; rfl
theorem termsN_bound : ∀ (d : Nat) (x : T25), SmallN d x → 0 ≤ termsN d x ∧ termsN d x ≤ 300 * cntN d x
 | 0, x, h => h.elim
 | d + 1, x, ⟨h1, h2, h3, h4⟩ => by
  simp only [termsN, cntN]; have key : ∀ l : List T25, (∀ s ∈ l, SmallN d s) → 0 ≤ (l.map (termsN d)).sum ∧ (l.map (termsN d)).sum ≤ 300 * (l.map (cntN d)).sum := by
   intro l
   induction l with
   | nil => intro _; simp
   | cons y t ih =>
    intro h; have a := termsN_bound d y (h y (by simp)); have b := ih (fun s hs => h s (by simp [hs])); simp only [List.map_cons, List.sum_cons]; omega
  have := key x.f3 h4; have := sum_pos d x.f3
  split
  ·unfold mx; split <;> omega
  ·omega
theorem Terms_loop (x : T25) (g : T25 → Int) (hl : x.f3.length < 4294967296) (hg : ∀ s ∈ x.f3, 0 ≤ g s) (hb : (x.f3.map g).sum < 4294967296) : ∀ (n i : Nat) (R : Nat → T25 → Option Int), (∀ s ∈ x.f3, Ev (fun k => R k s) (g s)) → i + n = x.f3.length →
  Ev (fun k => ask_Terms_l0 x (R k) k ((x.f3.take i).map g).sum (i : Int)) (x.f3.map g).sum
 | 0, i, R, hR, hn => by
  refine Ev.step (fun k => by rw [ask_Terms_l0]) ?_; refine Ev.neg (by omega) ((Ev.now _).is ?_); rw [List.take_of_length_le (by omega)]
 | n + 1, i, R, hR, hn => by
  have hi : i < x.f3.length := by omega
  have nonneg : ∀ l : List T25, (∀ s ∈ l, s ∈ x.f3) → 0 ≤ (l.map g).sum := by
   intro l
   induction l with
   | nil => intro _; simp
   | cons y t ih => intro h; have := hg y (h y (by simp)); have := ih (fun s hs => h s (by simp [hs])); simp; omega
  have e1 := nonneg (x.f3.take i) (fun s hs => List.mem_of_mem_take hs); have e2 := nonneg (x.f3.drop (i + 1)) (fun s hs => List.mem_of_mem_drop hs); have e3 := hg _ (getD_mem x.f3 z25 hi); have e4 : (x.f3.map g).sum = ((x.f3.take i).map g).sum + (g (x.f3.getD i z25) + ((x.f3.drop (i + 1)).map g).sum) := by
   conv => lhs; rw [parts_getD x.f3 z25 hi]
   simp
  have e5 : ((x.f3.take (i + 1)).map g).sum = ((x.f3.take i).map g).sum + g (x.f3.getD i z25) := by rw [take_getD x.f3 z25 hi]; simp
  refine Ev.step (fun k => by rw [ask_Terms_l0]) ?_; refine Ev.pos (by omega) ?_; refine Ev.pos (by omega) ?_; rw [show ((i : Nat) : Int).toNat = i by omega]; rw [eta25]; refine Ev.bind (hR _ (getD_mem x.f3 z25 hi)).shift ?_; rw [i64w (by omega), i64w (by omega), ← e5, show ((i : Nat) : Int) + 1 = ((i + 1 : Nat) : Int) by omega]; exact Terms_loop x g hl hg hb n (i + 1) (fun k => R (k + 1)) (fun s hs => (hR s hs).shift) (by omega)
theorem Terms_ev : ∀ (d : Nat) (x : T25), SmallN d x → cntN d x ≤ 1000 → Ev (fun k => ask_Terms k x) (termsN d x)
 | 0, x, h, _ => h.elim
 | d + 1, x, hs, hc => by
  have hs' := hs; obtain ⟨h1, h2, h3, h4⟩ := hs; have hcs : ∀ s ∈ x.f3, cntN d s ≤ 1000 := by
   intro s hs; simp only [cntN] at hc; have key : ∀ l : List T25, s ∈ l → cntN d s ≤ (l.map (cntN d)).sum := by
    intro l
    induction l with
    | nil => intro h; simp at h
    | cons y t ih =>
     intro h; have := cntN_pos d y; have := sum_pos d t; simp only [List.map_cons, List.sum_cons]; rcases List.mem_cons.1 h with rfl | h
     ·omega
     ·have := ih h; omega
   have := key x.f3 hs; omega
  have hb := termsN_bound (d + 1) x hs'; refine Ev.step (fun k => by rw [ask_Terms]) ?_; by_cases he : x.f3 = []
  ·refine Ev.pos (by rw [he]; rfl) ((Ev.now _).is ?_); simp only [termsN, he, if_true, mx]
  ·have hl : ¬ (x.f3.length : Int) = 0 := by have := List.length_pos_iff.2 he; omega
   refine Ev.neg hl ?_; simp only [termsN, he, if_false] at hb ⊢; have := Terms_loop x (termsN d) (by omega) (fun s hs => (termsN_bound d s (h4 s hs)).1) (by omega) x.f3.length 0 (fun k => ask_Terms k) (fun s hs => Terms_ev d s (h4 s hs) (hcs s hs)) (by omega); refine Ev.bind this (Ev.now _)
end Go.Proofs.YtbphlohiealbeaaGreatDoor.Pure
namespace Go.Proofs.YtbphlohiealbeaaGreatDoor.Pure
open Go Go.Gg Go.Gp Gf
set_option linter.unusedVariables false
set_option linter.unusedSimpArgs false
def wordOK (w : ByteArray) : Bool := decide (w.size ≤ 40) && (oneD w && decide (normD w = w))
theorem toList_beq (a b : ByteArray) : (a.toList == b.toList) = decide (a = b) := by
 rw [Bool.eq_iff_iff, beq_iff_eq, decide_eq_true_eq]; exact toList_inj a b
theorem odd_eq {w : ByteArray} (hs : w.size ≤ 35184372088832) : ask_odd w = some (!(wordOK w)) := by
 unfold ask_odd wordOK; rw [One_ev (by omega), Norm_eq hs]; by_cases h : w.size ≤ 40
 ·rw [if_neg (by omega)]; simp only [Option.bind_some, toList_beq, h, decide_true, Bool.true_and]
  cases oneD w <;> simp
 ·rw [if_pos (by omega)]; simp [h]
theorem Words_loop (l : List ByteArray) (hl : l.length < 4294967296) (hw : ∀ w ∈ l, w.size < 4294967296) : ∀ (n i : Nat), i + n = l.length →
  ∃ r, Ev (fun k => slices_IndexFunc_l0 l k (i : Int)) r ∧ (if (l.drop i).all wordOK then r = Sum.inr () else ∃ z, r = Sum.inl z ∧ 0 ≤ z)
 | 0, i, hn => by
  refine ⟨Sum.inr (), Ev.step (fun k => by rw [slices_IndexFunc_l0]) (Ev.neg (by omega) (Ev.now _)), ?_⟩; rw [List.drop_eq_nil_of_le (by omega)]; simp
 | n + 1, i, hn => by
  have hi : i < l.length := by omega
  have hat : ((i : Nat) : Int).toNat = i := by omega
  have ho := odd_eq (w := l.getD i ⟨#[]⟩) (by have := hw _ (getD_mem l ⟨#[]⟩ hi); omega); rw [drop_getD l ⟨#[]⟩ hi, List.all_cons]
  cases hq : wordOK (l.getD i ⟨#[]⟩)
  ·refine ⟨Sum.inl (i : Int), ?_, ?_⟩
   ·refine Ev.step (fun k => by rw [slices_IndexFunc_l0]) ?_; refine Ev.pos (by omega) ?_; refine Ev.pos (by omega) ?_; rw [hat, ho, hq]; exact Ev.name fun v hv => Ev.pos (by rw [hv]; rfl) (Ev.now _)
   ·simp
  ·obtain ⟨r, hr, hP⟩ := Words_loop l hl hw n (i + 1) (by omega); refine ⟨r, ?_, by simpa using hP⟩; refine Ev.step (fun k => by rw [slices_IndexFunc_l0]) ?_; refine Ev.pos (by omega) ?_; refine Ev.pos (by omega) ?_; rw [hat, ho, hq]; refine Ev.name fun v hv => Ev.neg (by rw [hv]; simp) ?_
   rw [i64w (by omega), show ((i : Nat) : Int) + 1 = ((i + 1 : Nat) : Int) by omega]; exact hr
theorem Words_ev (l : List ByteArray) (hl : l.length < 4294967296) (hw : ∀ w ∈ l, w.size < 4294967296) : Ev (fun k => slices_ContainsFunc k l) (!(l.all wordOK)) := by
 obtain ⟨r, hr, hP⟩ := Words_loop l hl hw l.length 0 (by omega); rw [List.drop_zero] at hP; unfold slices_ContainsFunc slices_IndexFunc
 cases h : l.all wordOK
 ·rw [h] at hP; simp only [Bool.false_eq_true, if_false] at hP; obtain ⟨z, rfl, hz⟩ := hP; exact Ev.bind (Ev.bind hr (Ev.now _)) ((Ev.now _).is (by simp [hz]))
 ·rw [h] at hP; simp only [if_true] at hP; subst hP; exact Ev.bind (Ev.bind hr (Ev.now _)) ((Ev.now _).is (by simp))
theorem Subs_loop (l : List T25) (g : T25 → Bool) (hl : l.length < 4294967296) : ∀ (n i : Nat) (R : Nat → T25 → Option Bool), (∀ s ∈ l, Ev (fun k => R k s) (g s)) → i + n = l.length →
  ∃ r, Ev (fun k => slices_IndexFunc_36_l0 l (R k) k (i : Int)) r ∧ (if (l.drop i).all g then r = Sum.inr () else ∃ z, r = Sum.inl z ∧ 0 ≤ z)
 | 0, i, R, hR, hn => by
  refine ⟨Sum.inr (), Ev.step (fun k => by rw [slices_IndexFunc_36_l0]) (Ev.neg (by omega) (Ev.now _)), ?_⟩; rw [List.drop_eq_nil_of_le (by omega)]; simp
 | n + 1, i, R, hR, hn => by
  have hi : i < l.length := by omega
  have hat : ((i : Nat) : Int).toNat = i := by omega
  have hs := (hR _ (getD_mem l z25 hi)).shift; rw [drop_getD l z25 hi, List.all_cons]
  cases hq : g (l.getD i z25)
  ·refine ⟨Sum.inl (i : Int), ?_, by simp⟩; refine Ev.step (fun k => by rw [slices_IndexFunc_36_l0]) ?_; refine Ev.pos (by omega) ?_; refine Ev.pos (by omega) ?_; rw [hat]; unfold ask_good_1; refine Ev.bind (Ev.bind hs (Ev.now _)) ?_; rw [hq]; exact Ev.pos rfl (Ev.now _)
  ·obtain ⟨r, hr, hP⟩ := Subs_loop l g hl n (i + 1) (fun k => R (k + 1)) (fun s hs => (hR s hs).shift) (by omega); refine ⟨r, ?_, by simpa using hP⟩; refine Ev.step (fun k => by rw [slices_IndexFunc_36_l0]) ?_; refine Ev.pos (by omega) ?_; refine Ev.pos (by omega) ?_; rw [hat]; unfold ask_good_1; refine Ev.bind (Ev.bind hs (Ev.now _)) ?_; rw [hq, i64w (by omega), show ((i : Nat) : Int) + 1 = ((i + 1 : Nat) : Int) by omega]; exact Ev.neg (by simp) hr
theorem Subs_ev (l : List T25) (g : T25 → Bool) (hl : l.length < 4294967296) (R : Nat → T25 → Option Bool) (hR : ∀ s ∈ l, Ev (fun k => R k s) (g s)) : Ev (fun k => slices_ContainsFunc_35 (R k) k l) (!(l.all g)) := by
 obtain ⟨r, hr, hP⟩ := Subs_loop l g hl l.length 0 R hR (by omega); rw [List.drop_zero] at hP; unfold slices_ContainsFunc_35 slices_IndexFunc_36
 cases h : l.all g
 ·rw [h] at hP; simp only [Bool.false_eq_true, if_false] at hP; obtain ⟨z, rfl, hz⟩ := hP; exact Ev.bind (Ev.bind hr (Ev.now _)) ((Ev.now _).is (by simp [hz]))
 ·rw [h] at hP; simp only [if_true] at hP; subst hP; exact Ev.bind (Ev.bind hr (Ev.now _)) ((Ev.now _).is (by simp))
def shapeB (x : T25) : Bool := decide ((x.f0 = 1 ∨ x.f0 = 2) ∧ x.f1 = 0 ∧ x.f2.length = 1 ∧ x.f3.length = 0 ∨ x.f0 = 3 ∧ x.f1 = 0 ∧ 1 ≤ x.f2.length ∧ x.f2.length ≤ 16 ∧ x.f3.length = 0 ∨ x.f0 = 4 ∧ 0 ≤ x.f1 ∧ x.f1 ≤ 7 ∧ x.f2.length = 0 ∧ x.f3.length = 0 ∨
 (x.f0 = 5 ∨ x.f0 = 6) ∧ 0 ≤ x.f1 ∧ x.f1 ≤ 1099511627776 ∧ x.f2.length = 0 ∧ x.f3.length = 0 ∨ x.f0 = 9 ∧ x.f1 = 0 ∧ x.f2.length = 0 ∧ x.f3.length = 1 ∨ (x.f0 = 7 ∨ x.f0 = 8) ∧ x.f1 = 0 ∧ x.f2.length = 0 ∧ 2 ≤ x.f3.length)
def goodN : Nat → T25 → Bool
 | 0, _ => false
 | d + 1, x => shapeB x && (x.f2.all wordOK && x.f3.all (goodN d))
theorem shape_some (s : T112) (o : Bool) (x : T25) : (if (!o) = true then some true else (if x.f1 < 0 then some true else (if x.f1 > s.f4 then some true else (if (x.f2.length : Int) < s.f0 then some true else (if (x.f2.length : Int) > s.f1 then some true else (if (x.f3.length : Int) < s.f2 then some true else some (decide ((x.f3.length : Int) > s.f3)))))))) =
  some (!(o && decide (0 ≤ x.f1 ∧ x.f1 ≤ s.f4 ∧ s.f0 ≤ (x.f2.length : Int) ∧ (x.f2.length : Int) ≤ s.f1 ∧ s.f2 ≤ (x.f3.length : Int) ∧ (x.f3.length : Int) ≤ s.f3))) := by
 cases o
 ·simp
 ·simp only [Bool.not_true, Bool.false_eq_true, if_false, Bool.true_and]
  repeat' split
  all_goals congr 1
  all_goals first | (rw [eq_comm, Bool.not_eq_true', decide_eq_false_iff_not]; omega) | (rw [Bool.eq_iff_iff, decide_eq_true_eq, Bool.not_eq_true', decide_eq_false_iff_not]; omega)
theorem shaped_eq (c : Int) : ask_shaped c = some (if c = 1 ∨ c = 2 then (⟨1, 1, 0, 0, 0⟩, true) else if c = 3 then (⟨1, 16, 0, 0, 0⟩, true) else if c = 4 then (⟨0, 0, 0, 0, 7⟩, true) else if c = 5 ∨ c = 6 then (⟨0, 0, 0, 0, 1099511627776⟩, true) else if c = 9 then (⟨0, 0, 1, 1, 0⟩, true) else if c = 7 ∨ c = 8 then (⟨0, 0, 2, 1048576, 0⟩, true) else (⟨0, 0, 0, 0, 0⟩, false)) := by
 by_cases h : c = 1 ∨ c = 2 ∨ c = 3 ∨ c = 4 ∨ c = 5 ∨ c = 6 ∨ c = 7 ∨ c = 8 ∨ c = 9
 ·rcases h with rfl | rfl | rfl | rfl | rfl | rfl | rfl | rfl | rfl <;> rfl
 ·simp only [not_or] at h; obtain ⟨h1, h2, h3, h4, h5, h6, h7, h8, h9⟩ := h; simp [ask_shaped, h1, h2, h3, h4, h5, h6, h7, h8, h9]
theorem good_ev : ∀ (d : Nat) (x : T25), SmallN d x → Ev (fun k => ask_good k x) (goodN d x)
 | 0, x, h => h.elim
 | d + 1, x, ⟨h1, h2, h3, h4⟩ => by
  refine Ev.step (fun k => by rw [ask_good]) ?_; rw [shaped_eq]; refine Ev.name fun v hv => ?_
  rw [shape_some]; have hsh : (v.2 && decide (0 ≤ x.f1 ∧ x.f1 ≤ v.1.f4 ∧ v.1.f0 ≤ (x.f2.length : Int) ∧ (x.f2.length : Int) ≤ v.1.f1 ∧ v.1.f2 ≤ (x.f3.length : Int) ∧ (x.f3.length : Int) ≤ v.1.f3)) = shapeB x := by
   rw [hv]; unfold shapeB; generalize x.f0 = c; rw [Bool.eq_iff_iff, decide_eq_true_eq, Bool.and_eq_true, decide_eq_true_eq]
   repeat' split
   all_goals (dsimp only; simp only [true_and, Bool.false_eq_true, false_and, false_iff])
   all_goals omega
  rw [hsh]; refine Ev.name fun u hu => ?_
  simp only [goodN]
  cases hB : shapeB x
  ·exact Ev.pos (by rw [hu, hB]; rfl) ((Ev.now _).is (by simp))
  ·refine Ev.neg (by rw [hu, hB]; simp) ?_; refine Ev.bind ?_ (Ev.now _); refine Ev.bind (Words_ev x.f2 (by omega) (fun w hw => by have := h2 w hw; omega)) ?_
   cases hw : x.f2.all wordOK
   ·exact Ev.neg (by simp) ((Ev.now _).is (by simp))
   ·refine Ev.pos rfl ?_; refine Ev.bind (Subs_ev x.f3 (goodN d) (by omega) (fun k => ask_good k) (fun s hs => good_ev d s (h4 s hs))) ?_; exact (Ev.now _).is (by simp)
end Go.Proofs.YtbphlohiealbeaaGreatDoor.Pure
