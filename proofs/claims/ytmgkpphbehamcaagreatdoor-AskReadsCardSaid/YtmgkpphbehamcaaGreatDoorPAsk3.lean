
import Derived.Test.YtmgkpphbehamcaaGreatDoorPTok
namespace Go.Proofs.YtmgkpphbehamcaaGreatDoor.Pure
open Go Go.Gg Go.Gp Gf
set_option linter.unusedVariables false
set_option linter.unusedSimpArgs false
def wordOK (w : ByteArray) : Bool := decide (w.size ≤ 40) && (oneD w && decide (normD w = w))
theorem toList_beq (a b : ByteArray) : (a.toList == b.toList) = decide (a = b) := by
 rw [Bool.eq_iff_iff, beq_iff_eq, decide_eq_true_eq]; exact toList_inj a b
theorem odd_eq {w : ByteArray} (hs : w.size ≤ 35184372088832) : ask_odd w = some (!(wordOK w)) := by
 unfold ask_odd wordOK; rw [One_ev (by omega), Norm_eq hs]; by_cases h : w.size ≤ 40
 ·rw [if_neg (by omega)]; simp only [Option.bind_some, toList_beq, h, decide_true, Bool.true_and]
  cases oneD w <;> simp
 ·rw [if_pos (by omega)]; simp [h]
theorem Words_loop (l : List ByteArray) (hl : l.length < 4294967296) (hw : ∀ w ∈ l, w.size < 4294967296) : ∀ (n i : Nat), i + n = l.length →
  ∃ r, Ev (fun k => slices_IndexFunc_l0 l k (i : Int)) r ∧ (if (l.drop i).all wordOK then r = Sum.inr () else ∃ z, r = Sum.inl z ∧ 0 ≤ z)
 | 0, i, hn => by
  refine ⟨Sum.inr (), Ev.step (fun k => by rw [slices_IndexFunc_l0]) (Ev.neg (by omega) (Ev.now _)), ?_⟩; rw [List.drop_eq_nil_of_le (by omega)]; simp
 | n + 1, i, hn => by
  have hi : i < l.length := by omega
  have hat : ((i : Nat) : Int).toNat = i := by omega
  have ho := odd_eq (w := l.getD i ⟨#[]⟩) (by have := hw _ (getD_mem l ⟨#[]⟩ hi); omega); rw [drop_getD l ⟨#[]⟩ hi, List.all_cons]
  cases hq : wordOK (l.getD i ⟨#[]⟩)
  ·refine ⟨Sum.inl (i : Int), ?_, ?_⟩
   ·refine Ev.step (fun k => by rw [slices_IndexFunc_l0]) ?_; refine Ev.pos (by omega) ?_; refine Ev.pos (by omega) ?_; rw [hat, ho, hq]; exact Ev.name fun v hv => Ev.pos (by rw [hv]; rfl) (Ev.now _)
   ·simp
  ·obtain ⟨r, hr, hP⟩ := Words_loop l hl hw n (i + 1) (by omega); refine ⟨r, ?_, by simpa using hP⟩; refine Ev.step (fun k => by rw [slices_IndexFunc_l0]) ?_; refine Ev.pos (by omega) ?_; refine Ev.pos (by omega) ?_; rw [hat, ho, hq]; refine Ev.name fun v hv => Ev.neg (by rw [hv]; simp) ?_
   rw [i64w (by omega), show ((i : Nat) : Int) + 1 = ((i + 1 : Nat) : Int) by omega]; exact hr
theorem Words_ev (l : List ByteArray) (hl : l.length < 4294967296) (hw : ∀ w ∈ l, w.size < 4294967296) : Ev (fun k => slices_ContainsFunc k l) (!(l.all wordOK)) := by
 obtain ⟨r, hr, hP⟩ := Words_loop l hl hw l.length 0 (by omega); rw [List.drop_zero] at hP; unfold slices_ContainsFunc slices_IndexFunc
 cases h : l.all wordOK
 ·rw [h] at hP; simp only [Bool.false_eq_true, if_false] at hP; obtain ⟨z, rfl, hz⟩ := hP; exact Ev.bind (Ev.bind hr (Ev.now _)) ((Ev.now _).is (by simp [hz]))
 ·rw [h] at hP; simp only [if_true] at hP; subst hP; exact Ev.bind (Ev.bind hr (Ev.now _)) ((Ev.now _).is (by simp))
theorem Subs_loop (l : List T26) (g : T26 → Bool) (hl : l.length < 4294967296) : ∀ (n i : Nat) (R : Nat → T26 → Option Bool), (∀ s ∈ l, Ev (fun k => R k s) (g s)) → i + n = l.length →
  ∃ r, Ev (fun k => slices_IndexFunc_49_l0 l (R k) k (i : Int)) r ∧ (if (l.drop i).all g then r = Sum.inr () else ∃ z, r = Sum.inl z ∧ 0 ≤ z)
 | 0, i, R, hR, hn => by
  refine ⟨Sum.inr (), Ev.step (fun k => by rw [slices_IndexFunc_49_l0]) (Ev.neg (by omega) (Ev.now _)), ?_⟩; rw [List.drop_eq_nil_of_le (by omega)]; simp
 | n + 1, i, R, hR, hn => by
  have hi : i < l.length := by omega
  have hat : ((i : Nat) : Int).toNat = i := by omega
  have hs := (hR _ (getD_mem l z26 hi)).shift; rw [drop_getD l z26 hi, List.all_cons]
  cases hq : g (l.getD i z26)
  ·refine ⟨Sum.inl (i : Int), ?_, by simp⟩; refine Ev.step (fun k => by rw [slices_IndexFunc_49_l0]) ?_; refine Ev.pos (by omega) ?_; refine Ev.pos (by omega) ?_; rw [hat]; unfold ask_good_1; refine Ev.bind (Ev.bind hs (Ev.now _)) ?_; rw [hq]; exact Ev.pos rfl (Ev.now _)
  ·obtain ⟨r, hr, hP⟩ := Subs_loop l g hl n (i + 1) (fun k => R (k + 1)) (fun s hs => (hR s hs).shift) (by omega); refine ⟨r, ?_, by simpa using hP⟩; refine Ev.step (fun k => by rw [slices_IndexFunc_49_l0]) ?_; refine Ev.pos (by omega) ?_; refine Ev.pos (by omega) ?_; rw [hat]; unfold ask_good_1; refine Ev.bind (Ev.bind hs (Ev.now _)) ?_; rw [hq, i64w (by omega), show ((i : Nat) : Int) + 1 = ((i + 1 : Nat) : Int) by omega]; exact Ev.neg (by simp) hr
theorem Subs_ev (l : List T26) (g : T26 → Bool) (hl : l.length < 4294967296) (R : Nat → T26 → Option Bool) (hR : ∀ s ∈ l, Ev (fun k => R k s) (g s)) : Ev (fun k => slices_ContainsFunc_48 (R k) k l) (!(l.all g)) := by
 obtain ⟨r, hr, hP⟩ := Subs_loop l g hl l.length 0 R hR (by omega); rw [List.drop_zero] at hP; unfold slices_ContainsFunc_48 slices_IndexFunc_49
 cases h : l.all g
 ·rw [h] at hP; simp only [Bool.false_eq_true, if_false] at hP; obtain ⟨z, rfl, hz⟩ := hP; exact Ev.bind (Ev.bind hr (Ev.now _)) ((Ev.now _).is (by simp [hz]))
 ·rw [h] at hP; simp only [if_true] at hP; subst hP; exact Ev.bind (Ev.bind hr (Ev.now _)) ((Ev.now _).is (by simp))
def shapeB (x : T26) : Bool := decide ((x.f0 = 1 ∨ x.f0 = 2) ∧ x.f1 = 0 ∧ x.f2.length = 1 ∧ x.f3.length = 0 ∨ x.f0 = 3 ∧ x.f1 = 0 ∧ 1 ≤ x.f2.length ∧ x.f2.length ≤ 16 ∧ x.f3.length = 0 ∨ x.f0 = 4 ∧ 0 ≤ x.f1 ∧ x.f1 ≤ 7 ∧ x.f2.length = 0 ∧ x.f3.length = 0 ∨
 (x.f0 = 5 ∨ x.f0 = 6) ∧ 0 ≤ x.f1 ∧ x.f1 ≤ 1099511627776 ∧ x.f2.length = 0 ∧ x.f3.length = 0 ∨ x.f0 = 9 ∧ x.f1 = 0 ∧ x.f2.length = 0 ∧ x.f3.length = 1 ∨ (x.f0 = 7 ∨ x.f0 = 8) ∧ x.f1 = 0 ∧ x.f2.length = 0 ∧ 2 ≤ x.f3.length)
def goodN : Nat → T26 → Bool
 | 0, _ => false
 | d + 1, x => shapeB x && (x.f2.all wordOK && x.f3.all (goodN d))
theorem shape_some (s : T102) (o : Bool) (x : T26) : (if (!o) = true then some true else (if x.f1 < 0 then some true else (if x.f1 > s.f4 then some true else (if (x.f2.length : Int) < s.f0 then some true else (if (x.f2.length : Int) > s.f1 then some true else (if (x.f3.length : Int) < s.f2 then some true else some (decide ((x.f3.length : Int) > s.f3)))))))) =
  some (!(o && decide (0 ≤ x.f1 ∧ x.f1 ≤ s.f4 ∧ s.f0 ≤ (x.f2.length : Int) ∧ (x.f2.length : Int) ≤ s.f1 ∧ s.f2 ≤ (x.f3.length : Int) ∧ (x.f3.length : Int) ≤ s.f3))) := by
 cases o
 ·simp
 ·simp only [Bool.not_true, Bool.false_eq_true, if_false, Bool.true_and]
  repeat' split
  all_goals congr 1
  all_goals first | (rw [eq_comm, Bool.not_eq_true', decide_eq_false_iff_not]; omega) | (rw [Bool.eq_iff_iff, decide_eq_true_eq, Bool.not_eq_true', decide_eq_false_iff_not]; omega)
theorem shaped_eq (c : Int) : ask_shaped c = some (if c = 1 ∨ c = 2 then (⟨1, 1, 0, 0, 0⟩, true) else if c = 3 then (⟨1, 16, 0, 0, 0⟩, true) else if c = 4 then (⟨0, 0, 0, 0, 7⟩, true) else if c = 5 ∨ c = 6 then (⟨0, 0, 0, 0, 1099511627776⟩, true) else if c = 9 then (⟨0, 0, 1, 1, 0⟩, true) else if c = 7 ∨ c = 8 then (⟨0, 0, 2, 1048576, 0⟩, true) else (⟨0, 0, 0, 0, 0⟩, false)) := by
 by_cases h : c = 1 ∨ c = 2 ∨ c = 3 ∨ c = 4 ∨ c = 5 ∨ c = 6 ∨ c = 7 ∨ c = 8 ∨ c = 9
 ·rcases h with rfl | rfl | rfl | rfl | rfl | rfl | rfl | rfl | rfl <;> rfl
 ·simp only [not_or] at h; obtain ⟨h1, h2, h3, h4, h5, h6, h7, h8, h9⟩ := h; simp [ask_shaped, h1, h2, h3, h4, h5, h6, h7, h8, h9]
theorem good_ev : ∀ (d : Nat) (x : T26), SmallN d x → Ev (fun k => ask_good k x) (goodN d x)
 | 0, x, h => h.elim
 | d + 1, x, ⟨h1, h2, h3, h4⟩ => by
  refine Ev.step (fun k => by rw [ask_good]) ?_; rw [shaped_eq]; refine Ev.name fun v hv => ?_
  rw [shape_some]; have hsh : (v.2 && decide (0 ≤ x.f1 ∧ x.f1 ≤ v.1.f4 ∧ v.1.f0 ≤ (x.f2.length : Int) ∧ (x.f2.length : Int) ≤ v.1.f1 ∧ v.1.f2 ≤ (x.f3.length : Int) ∧ (x.f3.length : Int) ≤ v.1.f3)) = shapeB x := by
   rw [hv]; unfold shapeB; generalize x.f0 = c; rw [Bool.eq_iff_iff, decide_eq_true_eq, Bool.and_eq_true, decide_eq_true_eq]
   repeat' split
   all_goals (dsimp only; simp only [true_and, Bool.false_eq_true, false_and, false_iff])
   all_goals omega
  rw [hsh]; refine Ev.name fun u hu => ?_
  simp only [goodN]
  cases hB : shapeB x
  ·exact Ev.pos (by rw [hu, hB]; rfl) ((Ev.now _).is (by simp))
  ·refine Ev.neg (by rw [hu, hB]; simp) ?_; refine Ev.bind ?_ (Ev.now _); refine Ev.bind (Words_ev x.f2 (by omega) (fun w hw => by have := h2 w hw; omega)) ?_
   cases hw : x.f2.all wordOK
   ·exact Ev.neg (by simp) ((Ev.now _).is (by simp))
   ·refine Ev.pos rfl ?_; refine Ev.bind (Subs_ev x.f3 (goodN d) (by omega) (fun k => ask_good k) (fun s hs => good_ev d s (h4 s hs))) ?_; exact (Ev.now _).is (by simp)
end Go.Proofs.YtmgkpphbehamcaaGreatDoor.Pure
namespace Go.Proofs.YtmgkpphbehamcaaGreatDoor.Pure
open Go Go.Gg Go.Gp Gf
set_option linter.unusedVariables false
set_option linter.unusedSimpArgs false
theorem good_no {d : Nat} {x : T26} (h : shapeB x = false) : goodN (d + 1) x = false := by simp only [goodN, h, Bool.false_and]
theorem good_words {d : Nat} {x : T26} (h : shapeB x = true) (h3 : x.f3.length = 0) : goodN (d + 1) x = x.f2.all wordOK := by
 simp only [goodN, h, Bool.true_and, List.eq_nil_of_length_eq_zero h3, List.all_nil, Bool.and_true]
theorem good_subs {d : Nat} {x : T26} (h : shapeB x = true) (h2 : x.f2.length = 0) : goodN (d + 1) x = x.f3.all (goodN d) := by
 simp only [goodN, h, Bool.true_and, List.eq_nil_of_length_eq_zero h2, List.all_nil]
theorem good_nil {d : Nat} {x : T26} (h : shapeB x = true) (h2 : x.f2.length = 0) (h3 : x.f3.length = 0) : goodN (d + 1) x = true := by
 rw [good_words h h3, List.eq_nil_of_length_eq_zero h2]; rfl
def mayB (d : Nat) (x : T26) : Bool := decide (deepN d x ≤ 6) && (decide (termsN d x ≤ 16) && goodN d x)
theorem askMay_ev {d : Nat} (hd : d < 1000) {x : T26} (h : SmallN d x) (hc : cntN d x ≤ 1000) : Ev (fun k => ask_May k x) (mayB d x) := by
 unfold ask_May mayB; refine Ev.bind ?_ (Ev.now _); refine Ev.bind (Deep_ev d x hd h) ?_; refine Ev.ite (fun a => ?_) (fun a => (Ev.now _).is (by rw [decide_eq_false a]; rfl)); refine Ev.bind (Terms_ev d x h hc) ?_; refine Ev.ite (fun b => ?_) (fun b => (Ev.now _).is (by rw [decide_eq_false b]; simp)); exact Ev.bind (good_ev d x h) ((Ev.now _).is (by rw [decide_eq_true a, decide_eq_true b]; simp))
end Go.Proofs.YtmgkpphbehamcaaGreatDoor.Pure
