
import Derived.Test.YtmgkpphbehamcaaGreatDoorPWr2
namespace Go.Proofs.YtmgkpphbehamcaaGreatDoor.Pure
open Go Go.Gg Go.Gp Gf
set_option linter.unusedVariables false
set_option linter.unusedSimpArgs false
theorem rletter_eq {r : Int} (h : Sc r) : grapevineref1_letter r = some (!(oth r)) := letter_eq h
theorem ToLower_eq {r : Int} (h : Sc r) : unicode_ToLower r = some (Lib.toLowerU r) := if_pos (by unfold Sc at h; omega)
theorem runes_eq {s : ByteArray} (h : s.size ≤ 70368744177664) : grapevineref1_runes s = some (if Lib.validD s.data.toList then runesOf s else []) := by
 unfold grapevineref1_runes; rw [valid_eq (by omega), if_pos h]
 cases Lib.validD s.data.toList <;> simp
theorem rNorm_ev (rs : List Int) (hr : ∀ r ∈ rs, Sc r) (hl : rs.length < 4294967296) : Ev (fun k => grapevineref1_Norm_l0 k 0 rs) (rs.map Lib.toLowerU) := by
 have h0 : rs = (rs.take 0).map Lib.toLowerU ++ rs.drop 0 := by simp
 have key := Ev.count (F := fun k (s : List Int) i => grapevineref1_Norm_l0 k i s) (r := rs.map Lib.toLowerU) (fun i => (rs.take i).map Lib.toLowerU ++ rs.drop i) rs.length (fun i hi r H => by
  have hlen : (((rs.take i).map Lib.toLowerU ++ rs.drop i).length : Int) = rs.length := by simp; omega
  have hat : ((rs.take i).map Lib.toLowerU ++ rs.drop i).getD ((i : Nat) : Int).toNat 0 = rs.getD i 0 := by
   rw [show ((i : Nat) : Int).toNat = i by omega, List.getD_eq_getElem?_getD, List.getElem?_append_right (by simp; omega), drop_getD rs 0 hi]; simp [Nat.min_eq_left (show i ≤ rs.length by omega)]
  refine Ev.step (fun k => by rw [grapevineref1_Norm_l0]) ?_; refine Ev.pos (by omega) (Ev.pos (by omega) ?_); rw [hat, ToLower_eq (hr _ (getD_mem rs 0 hi))]; refine Ev.name fun v hv => ?_
  refine Ev.pos (by omega) ?_; have e : ((rs.take i).map Lib.toLowerU ++ rs.drop i).set ((i : Nat) : Int).toNat v = (rs.take (i + 1)).map Lib.toLowerU ++ rs.drop (i + 1) := by
   rw [show ((i : Nat) : Int).toNat = i by omega, drop_getD rs 0 hi, List.set_append_right _ _ (by simp; omega), take_getD rs 0 hi, hv]; simp [Nat.min_eq_left (show i ≤ rs.length by omega)]
  rw [e, i64w (by omega), show ((i : Nat) : Int) + 1 = ((i + 1 : Nat) : Int) by omega]; exact H) (by
   refine Ev.step (fun k => by rw [grapevineref1_Norm_l0]) ?_; refine Ev.neg (by simp) ?_; exact (Ev.now _).is (by simp))
 rw [← h0] at key; exact key
theorem rNorm_bs (rs : List Int) (hr : ∀ r ∈ rs, Sc r) (hl : (enc rs).length < 4294967296) : Ev (fun k => grapevineref1_Norm k (bs rs)) (bs (rs.map Lib.toLowerU)) := by
 unfold grapevineref1_Norm; rw [runes_eq (by rw [bs_size]; omega), if_pos (bs_valid rs), runesOf_bs rs hr]; refine Ev.name fun v hv => ?_
 rw [hv]; refine Ev.bind (rNorm_ev rs hr (by have := enc_length rs; omega)) ?_; exact (Ev.now _).is (runesBytes_bs _)
theorem rNorm_norm {s : ByteArray} (h : s.size < 4294967296) : Ev (fun k => grapevineref1_Norm k s) (normD s) := by
 cases hv : Lib.validD s.data.toList
 ·unfold grapevineref1_Norm; rw [runes_eq (by omega), hv]; refine Ev.name fun v hv' => ?_
  subst hv'; rw [if_neg (by simp), normD_not hv]; refine Ev.bind (rNorm_ev [] (by simp) (by simp)) ?_; exact (Ev.now _).is rfl
 ·obtain ⟨rs, hr, rfl⟩ := valid_bs hv; rw [normD_bs rs hr]; exact rNorm_bs rs hr (by rw [bs_size] at h; exact h)
theorem rOne_loop (rs : List Int) (hr : ∀ r ∈ rs, Sc r) (hl : rs.length < 4294967296) : ∀ (n i : Nat), i + n = rs.length →
  Ev (fun k => grapevineref1_One_l0 rs k (i : Int)) (if (rs.drop i).all (fun r => !(oth r)) then Sum.inr () else Sum.inl false)
 | 0, i, hn => by
  refine Ev.step (fun k => by rw [grapevineref1_One_l0]) ?_; refine Ev.neg (by omega) ?_; refine (Ev.now _).is ?_; rw [List.drop_eq_nil_of_le (by omega)]; simp
 | n + 1, i, hn => by
  have hi : i < rs.length := by omega
  refine Ev.step (fun k => by rw [grapevineref1_One_l0]) ?_; refine Ev.pos (by omega) (Ev.pos (by omega) ?_); rw [show ((i : Nat) : Int).toNat = i by omega, rletter_eq (hr _ (getD_mem rs 0 hi)), drop_getD rs 0 hi]; refine Ev.name fun v hv => ?_
  rw [List.all_cons]
  cases hq : oth (rs.getD i 0)
  ·refine Ev.neg (by rw [hv, hq]; simp) ?_; rw [i64w (by omega), show ((i : Nat) : Int) + 1 = ((i + 1 : Nat) : Int) by omega]; have := rOne_loop rs hr hl n (i + 1) (by omega); simpa using this
  ·refine Ev.pos (by rw [hv, hq]; simp) ?_; exact (Ev.now _).is (by simp)
theorem rOne_ev {s : ByteArray} (hs : s.size < 4294967296) : Ev (fun k => grapevineref1_One k s) (oneD s) := by
 unfold grapevineref1_One oneD; rw [runes_eq (by omega)]; refine Ev.name fun v hv => ?_
 cases hv' : Lib.validD s.data.toList
 ·rw [hv'] at hv; simp only [Bool.false_eq_true, if_false] at hv; rw [hv]; refine Ev.bind (rOne_loop [] (by simp) (by simp) 0 0 (by simp)) ?_; exact (Ev.now _).is (by simp)
 ·obtain ⟨rs, hr, rfl⟩ := valid_bs hv'; rw [hv', runesOf_bs rs hr] at hv; simp only [if_true] at hv; rw [hv, runesOf_bs rs hr]; rw [bs_size] at hs; have hel := enc_length rs; refine Ev.bind (rOne_loop rs hr (by omega) rs.length 0 (by simp)) ?_; rw [List.drop_zero]
  cases ha : rs.all fun r => !(oth r)
  ·exact (Ev.now _).is (by simp)
  ·refine (Ev.now _).is ?_; by_cases hne : rs = []
   ·subst hne; simp
   ·have := List.length_pos_iff.2 hne; simp [hne]; omega
theorem rDeep_l0 (x : T26) (R : T26 → Option Int) : ∀ (k : Nat) (a i : Int), grapevineref14_Deep_l0 x R k a i = ask_Deep_l0 x R k a i
 | 0, _, _ => rfl
 | k + 1, a, i => by
  rw [grapevineref14_Deep_l0, ask_Deep_l0, eta26]; simp only [rDeep_l0 x R k]
theorem rDeep_eq : ∀ (k : Nat) (x : T26), grapevineref14_Deep k x = ask_Deep k x
 | 0, _ => rfl
 | k + 1, x => by
  have : grapevineref14_Deep k = ask_Deep k := funext (rDeep_eq k); rw [grapevineref14_Deep, ask_Deep, rDeep_l0, this]
theorem rTerms_l0 (x : T26) (R : T26 → Option Int) : ∀ (k : Nat) (a i : Int), grapevineref14_Terms_l0 x R k a i = ask_Terms_l0 x R k a i
 | 0, _, _ => rfl
 | k + 1, a, i => by
  rw [grapevineref14_Terms_l0, ask_Terms_l0, eta26]; simp only [rTerms_l0 x R k]
theorem rTerms_eq : ∀ (k : Nat) (x : T26), grapevineref14_Terms k x = ask_Terms k x
 | 0, _ => rfl
 | k + 1, x => by
  have : grapevineref14_Terms k = ask_Terms k := funext (rTerms_eq k); rw [grapevineref14_Terms, ask_Terms, rTerms_l0, this]
theorem word_ev {w : ByteArray} (hs : w.size < 4294967296) : Ev (fun k => grapevineref14_word k w) (wordOK w) := by
 unfold grapevineref14_word wordOK; refine Ev.bind ?_ (Ev.now _); by_cases h : w.size ≤ 40
 ·refine Ev.pos (by omega) ?_; refine Ev.bind (rOne_ev hs) ?_; simp only [h, decide_true, Bool.true_and]
  cases oneD w
  ·exact Ev.neg Bool.false_ne_true (Ev.now _)
  ·refine Ev.pos rfl ?_; exact Ev.bind (rNorm_norm hs) ((Ev.now _).is (by rw [toList_beq]; rfl))
 ·refine Ev.neg (by omega) ((Ev.now _).is ?_); simp [h]
theorem words_loop (l : List ByteArray) (hl : l.length < 4294967296) (hw : ∀ w ∈ l, w.size < 4294967296) : ∀ (n i : Nat), i + n = l.length →
  Ev (fun k => grapevineref14_words_l0 l k (i : Int)) (if (l.drop i).all wordOK then Sum.inr () else Sum.inl false)
 | 0, i, hn => by
  refine Ev.step (fun k => by rw [grapevineref14_words_l0]) ?_; refine Ev.neg (by omega) ((Ev.now _).is ?_); rw [List.drop_eq_nil_of_le (by omega)]; simp
 | n + 1, i, hn => by
  have hi : i < l.length := by omega
  refine Ev.step (fun k => by rw [grapevineref14_words_l0]) ?_; refine Ev.pos (by omega) ?_; refine Ev.pos (by omega) ?_; rw [show ((i : Nat) : Int).toNat = i by omega, drop_getD l ⟨#[]⟩ hi, List.all_cons]; refine Ev.bind (word_ev (hw _ (getD_mem l ⟨#[]⟩ hi))) ?_
  cases wordOK (l.getD i ⟨#[]⟩)
  ·exact Ev.pos rfl ((Ev.now _).is (by simp))
  ·refine Ev.neg (by simp) ?_; rw [i64w (by omega), show ((i : Nat) : Int) + 1 = ((i + 1 : Nat) : Int) by omega]; have := words_loop l hl hw n (i + 1) (by omega); simpa using this
theorem words_ev (l : List ByteArray) (hl : l.length < 4294967296) (hw : ∀ w ∈ l, w.size < 4294967296) (lo hi : Int) : Ev (fun k => grapevineref14_words k l lo hi) (l.all wordOK && (decide ((l.length : Int) ≥ lo) && decide ((l.length : Int) ≤ hi))) := by
 unfold grapevineref14_words; refine Ev.bind (words_loop l hl hw l.length 0 (by omega)) ?_; rw [List.drop_zero]
 cases h : l.all wordOK
 ·exact (Ev.now _).is (by simp)
 ·simp only [if_true]; refine Ev.bind ?_ (Ev.now _); refine Ev.ite (fun h1 => (Ev.now _).is ?_) (fun h1 => (Ev.now _).is ?_)
  ·simp [h1]
  ·simp [h1]
theorem form_loop (x : T26) (g : T26 → Bool) (hl : x.f3.length < 4294967296) : ∀ (n i : Nat) (R : Nat → T26 → Option Bool), (∀ s ∈ x.f3, Ev (fun k => R k s) (g s)) → i + n = x.f3.length →
  Ev (fun k => grapevineref14_form_l0 x (R k) k (i : Int)) (if (x.f3.drop i).all g then Sum.inr () else Sum.inl false)
 | 0, i, R, hR, hn => by
  refine Ev.step (fun k => by rw [grapevineref14_form_l0]) ?_; refine Ev.neg (by omega) ((Ev.now _).is ?_); rw [List.drop_eq_nil_of_le (by omega)]; simp
 | n + 1, i, R, hR, hn => by
  have hi : i < x.f3.length := by omega
  refine Ev.step (fun k => by rw [grapevineref14_form_l0]) ?_; refine Ev.pos (by omega) ?_; refine Ev.pos (by omega) ?_; rw [show ((i : Nat) : Int).toNat = i by omega, drop_getD x.f3 z26 hi, List.all_cons]; refine Ev.bind (hR _ (getD_mem x.f3 z26 hi)).shift ?_
  cases g (x.f3.getD i z26)
  ·exact Ev.pos rfl ((Ev.now _).is (by simp))
  ·refine Ev.neg (by simp) ?_; rw [i64w (by omega), show ((i : Nat) : Int) + 1 = ((i + 1 : Nat) : Int) by omega]; have := form_loop x g hl n (i + 1) (fun k => R (k + 1)) (fun s hs => (hR s hs).shift) (by omega); simpa using this
theorem form_l1' (x : T26) (R : T26 → Option Bool) : ∀ (k : Nat) (i : Int), grapevineref14_form_l1 x R k i = grapevineref14_form_l0 x R k i
 | 0, _ => rfl
 | k + 1, i => by
  rw [grapevineref14_form_l1, grapevineref14_form_l0]; simp only [form_l1' x R k]
theorem form_l2' (x : T26) (R : T26 → Option Bool) : ∀ (k : Nat) (i : Int), grapevineref14_form_l2 x R k i = grapevineref14_form_l0 x R k i
 | 0, _ => rfl
 | k + 1, i => by
  rw [grapevineref14_form_l2, grapevineref14_form_l0]; simp only [form_l2' x R k]
theorem form_l3' (x : T26) (R : T26 → Option Bool) : ∀ (k : Nat) (i : Int), grapevineref14_form_l3 x R k i = grapevineref14_form_l0 x R k i
 | 0, _ => rfl
 | k + 1, i => by
  rw [grapevineref14_form_l3, grapevineref14_form_l0]; simp only [form_l3' x R k]
theorem form_l4' (x : T26) (R : T26 → Option Bool) : ∀ (k : Nat) (i : Int), grapevineref14_form_l4 x R k i = grapevineref14_form_l0 x R k i
 | 0, _ => rfl
 | k + 1, i => by
  rw [grapevineref14_form_l4, grapevineref14_form_l0]; simp only [form_l4' x R k]
theorem form_l5' (x : T26) (R : T26 → Option Bool) : ∀ (k : Nat) (i : Int), grapevineref14_form_l5 x R k i = grapevineref14_form_l0 x R k i
 | 0, _ => rfl
 | k + 1, i => by
  rw [grapevineref14_form_l5, grapevineref14_form_l0]; simp only [form_l5' x R k]
theorem form_l6' (x : T26) (R : T26 → Option Bool) : ∀ (k : Nat) (i : Int), grapevineref14_form_l6 x R k i = grapevineref14_form_l0 x R k i
 | 0, _ => rfl
 | k + 1, i => by
  rw [grapevineref14_form_l6, grapevineref14_form_l0]; simp only [form_l6' x R k]
theorem form_l7' (x : T26) (R : T26 → Option Bool) : ∀ (k : Nat) (i : Int), grapevineref14_form_l7 x R k i = grapevineref14_form_l0 x R k i
 | 0, _ => rfl
 | k + 1, i => by
  rw [grapevineref14_form_l7, grapevineref14_form_l0]; simp only [form_l7' x R k]
theorem form_l8' (x : T26) (R : T26 → Option Bool) : ∀ (k : Nat) (i : Int), grapevineref14_form_l8 x R k i = grapevineref14_form_l0 x R k i
 | 0, _ => rfl
 | k + 1, i => by
  rw [grapevineref14_form_l8, grapevineref14_form_l0]; simp only [form_l8' x R k]
theorem form_l9' (x : T26) (R : T26 → Option Bool) : ∀ (k : Nat) (i : Int), grapevineref14_form_l9 x R k i = grapevineref14_form_l0 x R k i
 | 0, _ => rfl
 | k + 1, i => by
  rw [grapevineref14_form_l9, grapevineref14_form_l0]; simp only [form_l9' x R k]
theorem form_l10' (x : T26) (R : T26 → Option Bool) : ∀ (k : Nat) (i : Int), grapevineref14_form_l10 x R k i = grapevineref14_form_l0 x R k i
 | 0, _ => rfl
 | k + 1, i => by
  rw [grapevineref14_form_l10, grapevineref14_form_l0]; simp only [form_l10' x R k]
theorem form_l11' (x : T26) (R : T26 → Option Bool) : ∀ (k : Nat) (i : Int), grapevineref14_form_l11 x R k i = grapevineref14_form_l0 x R k i
 | 0, _ => rfl
 | k + 1, i => by
  rw [grapevineref14_form_l11, grapevineref14_form_l0]; simp only [form_l11' x R k]
theorem form_eq (k : Nat) (x : T26) : grapevineref14_form (k + 1) x =
  if x.f0 = 1 ∨ x.f0 = 2 then (if x.f1 = 0 then (if (x.f3.length : Int) = 0 then grapevineref14_words k x.f2 1 1 else some false) else some false)
  else if x.f0 = 3 then (if x.f1 = 0 then (if (x.f3.length : Int) = 0 then grapevineref14_words k x.f2 1 16 else some false) else some false)
  else if x.f0 = 4 then (if (x.f2.length : Int) = 0 then (if (x.f3.length : Int) = 0 then (if x.f1 ≥ 0 then some (decide (x.f1 < 8)) else some false) else some false) else some false)
  else if x.f0 = 5 ∨ x.f0 = 6 then (if (x.f2.length : Int) = 0 then (if (x.f3.length : Int) = 0 then (if x.f1 ≥ 0 then some (decide (x.f1 ≤ 1099511627776)) else some false) else some false) else some false)
  else if x.f0 = 9 then (if ¬ (x.f3.length : Int) = 1 then some false else ((grapevineref14_form_l0 x (grapevineref14_form k) k 0).bind fun os => match os with | Sum.inl r => some r | Sum.inr _ => (if x.f1 = 0 then some ((x.f2.length : Int) == 0) else some false)))
  else if x.f0 = 7 ∨ x.f0 = 8 then (if (x.f3.length : Int) < 2 then some false else ((grapevineref14_form_l0 x (grapevineref14_form k) k 0).bind fun os => match os with | Sum.inl r => some r | Sum.inr _ => (if x.f1 = 0 then some ((x.f2.length : Int) == 0) else some false)))
  else some false := by
 rw [grapevineref14_form]; simp only [form_l1', form_l2', form_l3', form_l4', form_l5', form_l6', form_l7', form_l8', form_l9', form_l10', form_l11']; have id1 : ∀ {α : Type} (o : Option α), (o.bind fun s => some s) = o := fun o => by cases o <;> rfl
 simp only [id1]; by_cases h : x.f0 = 1 ∨ x.f0 = 2 ∨ x.f0 = 3 ∨ x.f0 = 4 ∨ x.f0 = 5 ∨ x.f0 = 6 ∨ x.f0 = 7 ∨ x.f0 = 8 ∨ x.f0 = 9
 ·rcases h with h | h | h | h | h | h | h | h | h <;> simp only [h] <;> rfl
 ·simp only [not_or] at h; obtain ⟨h1, h2, h3, h4, h5, h6, h7, h8, h9⟩ := h; simp only [h1, h2, h3, h4, h5, h6, h7, h8, h9, if_false, or_self]
theorem form_ev : ∀ (d : Nat) (x : T26), SmallN d x → Ev (fun k => grapevineref14_form k x) (goodN d x)
 | 0, x, h => h.elim
 | d + 1, x, ⟨h1, h2, h3, h4⟩ => by
  refine Ev.step (fun k => form_eq k x) ?_; have hW := fun hi => words_ev x.f2 (by omega) (fun w hw => by have := h2 w hw; omega) 1 hi
  have hF := form_loop x (goodN d) (by omega) x.f3.length 0 (fun k => grapevineref14_form k) (fun s hs => form_ev d s (h4 s hs)) (by omega); rw [List.drop_zero] at hF; have no : shapeB x = false → ∀ {g : Nat → Option Bool}, Ev g false → Ev g (goodN (d + 1) x) := fun h _ hg => hg.is (good_no h).symm
  have tail : (x.f0 = 9 ∧ x.f3.length = 1 ∨ (x.f0 = 7 ∨ x.f0 = 8) ∧ 2 ≤ x.f3.length) → Ev (fun k => (grapevineref14_form_l0 x (grapevineref14_form k) k 0).bind fun os => match os with | Sum.inl r => some r | Sum.inr _ => (if x.f1 = 0 then some ((x.f2.length : Int) == 0) else some false)) (goodN (d + 1) x) := by
   intro hk; have hF' : Ev (fun k => grapevineref14_form_l0 x (grapevineref14_form k) k 0) (if x.f3.all (goodN d) then Sum.inr () else Sum.inl false) := hF; refine Ev.bind hF' ?_
   cases hall : x.f3.all (goodN d)
   ·refine (Ev.now _).is ?_; simp only [goodN, hall, Bool.and_false]
   ·simp only [if_true]; by_cases a : x.f1 = 0
    ·by_cases b : x.f2.length = 0
     ·refine Ev.pos a ((Ev.now _).is ?_); rw [good_subs (decide_eq_true (by omega)) b, hall, b]; rfl
     ·refine Ev.pos a ((Ev.now _).is ?_); rw [good_no (decide_eq_false (by omega)), beq_eq_false_iff_ne]; omega
    ·exact Ev.neg a (no (decide_eq_false (by omega)) (Ev.now _))
  refine Ev.ite (fun c1 => ?_) (fun c1 => ?_)
  ·by_cases a : x.f1 = 0
   ·by_cases b : (x.f3.length : Int) = 0
    ·refine Ev.pos a (Ev.pos b ((hW 1).is ?_)); by_cases e : x.f2.length = 1
     ·rw [good_words (decide_eq_true (by omega)) (by omega)]; simp [e]
     ·rw [good_no (decide_eq_false (by omega))]; have : ¬ ((x.f2.length : Int) ≥ 1 ∧ (x.f2.length : Int) ≤ 1) := by omega
      rw [← Bool.decide_and, decide_eq_false this, Bool.and_false]
    ·exact Ev.pos a (Ev.neg b (no (decide_eq_false (by omega)) (Ev.now _)))
   ·exact Ev.neg a (no (decide_eq_false (by omega)) (Ev.now _))
  refine Ev.ite (fun c2 => ?_) (fun c2 => ?_)
  ·by_cases a : x.f1 = 0
   ·by_cases b : (x.f3.length : Int) = 0
    ·refine Ev.pos a (Ev.pos b ((hW 16).is ?_)); by_cases e : 1 ≤ x.f2.length ∧ x.f2.length ≤ 16
     ·rw [good_words (decide_eq_true (by omega)) (by omega)]; have : ((x.f2.length : Int) ≥ 1 ∧ (x.f2.length : Int) ≤ 16) := by omega
      rw [← Bool.decide_and, decide_eq_true this, Bool.and_true]
     ·rw [good_no (decide_eq_false (by omega))]; have : ¬ ((x.f2.length : Int) ≥ 1 ∧ (x.f2.length : Int) ≤ 16) := by omega
      rw [← Bool.decide_and, decide_eq_false this, Bool.and_false]
    ·exact Ev.pos a (Ev.neg b (no (decide_eq_false (by omega)) (Ev.now _)))
   ·exact Ev.neg a (no (decide_eq_false (by omega)) (Ev.now _))
  refine Ev.ite (fun c3 => ?_) (fun c3 => ?_)
  ·by_cases a : (x.f2.length : Int) = 0
   ·by_cases b : (x.f3.length : Int) = 0
    ·by_cases e : x.f1 ≥ 0
     ·refine Ev.pos a (Ev.pos b (Ev.pos e ((Ev.now _).is ?_))); by_cases u : x.f1 < 8
      ·rw [good_nil (decide_eq_true (by omega)) (by omega) (by omega), decide_eq_true u]
      ·rw [good_no (decide_eq_false (by omega)), decide_eq_false u]
     ·exact Ev.pos a (Ev.pos b (Ev.neg e (no (decide_eq_false (by omega)) (Ev.now _))))
    ·exact Ev.pos a (Ev.neg b (no (decide_eq_false (by omega)) (Ev.now _)))
   ·exact Ev.neg a (no (decide_eq_false (by omega)) (Ev.now _))
  refine Ev.ite (fun c4 => ?_) (fun c4 => ?_)
  ·by_cases a : (x.f2.length : Int) = 0
   ·by_cases b : (x.f3.length : Int) = 0
    ·by_cases e : x.f1 ≥ 0
     ·refine Ev.pos a (Ev.pos b (Ev.pos e ((Ev.now _).is ?_))); by_cases u : x.f1 ≤ 1099511627776
      ·rw [good_nil (decide_eq_true (by omega)) (by omega) (by omega), decide_eq_true u]
      ·rw [good_no (decide_eq_false (by omega)), decide_eq_false u]
     ·exact Ev.pos a (Ev.pos b (Ev.neg e (no (decide_eq_false (by omega)) (Ev.now _))))
    ·exact Ev.pos a (Ev.neg b (no (decide_eq_false (by omega)) (Ev.now _)))
   ·exact Ev.neg a (no (decide_eq_false (by omega)) (Ev.now _))
  refine Ev.ite (fun c5 => ?_) (fun c5 => ?_)
  ·by_cases a : (x.f3.length : Int) = 1
   ·exact Ev.neg (fun h => h a) (tail (by omega))
   ·exact Ev.pos a (no (decide_eq_false (by omega)) (Ev.now _))
  refine Ev.ite (fun c6 => ?_) (fun c6 => ?_)
  ·by_cases a : (x.f3.length : Int) < 2
   ·exact Ev.pos a (no (decide_eq_false (by omega)) (Ev.now _))
   ·exact Ev.neg a (tail (by omega))
  ·exact no (decide_eq_false (by omega)) (Ev.now _)
theorem rAskMay_ev {d : Nat} (hd : d < 1000) {x : T26} (h : SmallN d x) (hc : cntN d x ≤ 1000) : Ev (fun k => grapevineref14_May k x) (mayB d x) := by
 unfold grapevineref14_May mayB; simp only [rDeep_eq, rTerms_eq]; refine Ev.bind ?_ (Ev.now _); refine Ev.bind (Deep_ev d x hd h) ?_; refine Ev.ite (fun a => ?_) (fun a => (Ev.now _).is (by rw [decide_eq_false a]; rfl)); refine Ev.bind (Terms_ev d x h hc) ?_; refine Ev.ite (fun b => ?_) (fun b => (Ev.now _).is (by rw [decide_eq_false b]; simp)); exact Ev.bind (form_ev d x h) ((Ev.now _).is (by rw [decide_eq_true a, decide_eq_true b]; simp))
end Go.Proofs.YtmgkpphbehamcaaGreatDoor.Pure
