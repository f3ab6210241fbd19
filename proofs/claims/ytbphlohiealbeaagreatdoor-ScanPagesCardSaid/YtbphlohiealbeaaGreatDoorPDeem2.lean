
import Derived.Test.YtbphlohiealbeaaGreatDoorF2
import Derived.Test.YtbphlohiealbeaaGreatDoorPAsk4
import Derived.Test.YtbphlohiealbeaaGreatDoorF0
namespace Go.Proofs.YtbphlohiealbeaaGreatDoor.Pure
open Go Go.Gg Go.Gp Gf
set_option linter.unusedVariables false
set_option linter.unusedSimpArgs false
def prefB (w p : ByteArray) : Bool := decide (p.size ≤ w.size) && decide (w.extract 0 p.size = p)
theorem HasPrefix_eq (w p : ByteArray) : strings_HasPrefix w p = some (prefB w p) := by
 unfold strings_HasPrefix stringslite_HasPrefix prefB; by_cases h : p.size ≤ w.size
 ·rw [if_pos (by omega), if_pos (by omega), toList_beq]; simp [h]
 ·rw [if_neg (by omega)]; simp [h]
def prefD (ws : List T85) (p : ByteArray) : Bool := ws.any fun w => prefB w.f0 p
section
variable (ws : List T85) (hw : ws.length < 4294967296) (x : T25) (hx : 0 < x.f2.length)
include hw hx
theorem Pref_loop : ∀ (n i : Nat), i + n = ws.length → ∃ r, Ev (fun k => slices_IndexFunc_52_l0 ws x k (i : Int)) r ∧ (if (ws.drop i).any (fun w => prefB w.f0 (x.f2.getD 0 ⟨#[]⟩)) then ∃ z, r = Sum.inl z ∧ 0 ≤ z else r = Sum.inr ())
 | 0, i, hn => by
  refine ⟨Sum.inr (), Ev.step (fun k => by rw [slices_IndexFunc_52_l0]) (Ev.neg (by omega) (Ev.now _)), ?_⟩; rw [List.drop_eq_nil_of_le (by omega)]; simp
 | n + 1, i, hn => by
  have hi : i < ws.length := by omega
  have hat : ((i : Nat) : Int).toNat = i := by omega
  have ho : deem_look_holds_1 (ws.getD i z85) x = some (prefB (ws.getD i z85).f0 (x.f2.getD 0 ⟨#[]⟩)) := by
   unfold deem_look_holds_1; rw [if_pos (by omega), HasPrefix_eq]; rfl
  rw [drop_getD ws z85 hi, List.any_cons]
  cases hq : prefB (ws.getD i z85).f0 (x.f2.getD 0 ⟨#[]⟩)
  ·obtain ⟨r, hr, hP⟩ := Pref_loop n (i + 1) (by omega); refine ⟨r, ?_, by simpa using hP⟩; refine Ev.step (fun k => by rw [slices_IndexFunc_52_l0]) ?_; refine Ev.pos (by omega) ?_; refine Ev.pos (by omega) ?_; rw [hat, ho, hq]; refine Ev.name fun v hv => Ev.neg (by rw [hv]; simp) ?_
   rw [i64w (by omega), show ((i : Nat) : Int) + 1 = ((i + 1 : Nat) : Int) by omega]; exact hr
  ·refine ⟨Sum.inl (i : Int), ?_, by simp⟩; refine Ev.step (fun k => by rw [slices_IndexFunc_52_l0]) ?_; refine Ev.pos (by omega) ?_; refine Ev.pos (by omega) ?_; rw [hat, ho, hq]; exact Ev.name fun v hv => Ev.pos (by rw [hv]) (Ev.now _)
theorem Pref_ev : Ev (fun k => slices_ContainsFunc_51 k ws x) (prefD ws (x.f2.getD 0 ⟨#[]⟩)) := by
 obtain ⟨r, hr, hP⟩ := Pref_loop ws hw x hx ws.length 0 (by omega); rw [List.drop_zero] at hP; unfold slices_ContainsFunc_51 slices_IndexFunc_52 prefD
 cases h : ws.any (fun w => prefB w.f0 (x.f2.getD 0 ⟨#[]⟩))
 ·rw [h] at hP; simp only [Bool.false_eq_true, if_false] at hP; subst hP; exact Ev.bind (Ev.bind hr (Ev.now _)) ((Ev.now _).is (by simp))
 ·rw [h] at hP; simp only [if_true] at hP; obtain ⟨z, rfl, hz⟩ := hP; exact Ev.bind (Ev.bind hr (Ev.now _)) ((Ev.now _).is (by simp [hz]))
end
def holdsN (o wl : Int) (ws : List T85) : Nat → T25 → Bool
 | 0, _ => false
 | d + 1, x => if x.f0 = 1 ∨ x.f0 = 3 then phraseD ws x.f2 else if x.f0 = 2 then prefD ws (x.f2.getD 0 ⟨#[]⟩) else if x.f0 = 4 then o == x.f1 else if x.f0 = 5 then decide (wl ≥ x.f1) else if x.f0 = 6 then decide (wl ≤ x.f1) else
  if x.f0 = 8 then x.f3.any (holdsN o wl ws d) else if x.f0 = 9 then !(holdsN o wl ws d (x.f3.getD 0 z25)) else x.f3.all (holdsN o wl ws d)
theorem Or_loop (a : T71) (l : List T25) (g : T25 → Bool) (hl : l.length < 4294967296) : ∀ (n i : Nat) (R : Nat → T71 → T25 → Option Bool), (∀ s ∈ l, Ev (fun k => R k a s) (g s)) → i + n = l.length →
  ∃ r, Ev (fun k => slices_IndexFunc_57_l0 l a (R k) k (i : Int)) r ∧ (if (l.drop i).any g then ∃ z, r = Sum.inl z ∧ 0 ≤ z else r = Sum.inr ())
 | 0, i, R, hR, hn => by
  refine ⟨Sum.inr (), Ev.step (fun k => by rw [slices_IndexFunc_57_l0]) (Ev.neg (by omega) (Ev.now _)), ?_⟩; rw [List.drop_eq_nil_of_le (by omega)]; simp
 | n + 1, i, R, hR, hn => by
  have hi : i < l.length := by omega
  have hat : ((i : Nat) : Int).toNat = i := by omega
  have hs := (hR _ (getD_mem l z25 hi)).shift; rw [drop_getD l z25 hi, List.any_cons]
  cases hq : g (l.getD i z25)
  ·obtain ⟨r, hr, hP⟩ := Or_loop a l g hl n (i + 1) (fun k => R (k + 1)) (fun s hs => (hR s hs).shift) (by omega); refine ⟨r, ?_, by simpa using hP⟩; refine Ev.step (fun k => by rw [slices_IndexFunc_57_l0]) ?_; refine Ev.pos (by omega) ?_; refine Ev.pos (by omega) ?_; rw [hat]; refine Ev.bind hs ?_; rw [hq, i64w (by omega), show ((i : Nat) : Int) + 1 = ((i + 1 : Nat) : Int) by omega]; exact Ev.neg Bool.false_ne_true hr
  ·refine ⟨Sum.inl (i : Int), ?_, by simp⟩; refine Ev.step (fun k => by rw [slices_IndexFunc_57_l0]) ?_; refine Ev.pos (by omega) ?_; refine Ev.pos (by omega) ?_; rw [hat]; refine Ev.bind hs ?_; rw [hq]; exact Ev.pos rfl (Ev.now _)
theorem Or_ev (a : T71) (l : List T25) (g : T25 → Bool) (hl : l.length < 4294967296) (R : Nat → T71 → T25 → Option Bool) (hR : ∀ s ∈ l, Ev (fun k => R k a s) (g s)) : Ev (fun k => slices_ContainsFunc_56 (R k) k l a) (l.any g) := by
 obtain ⟨r, hr, hP⟩ := Or_loop a l g hl l.length 0 R hR (by omega); rw [List.drop_zero] at hP; unfold slices_ContainsFunc_56 slices_IndexFunc_57
 cases h : l.any g
 ·rw [h] at hP; simp only [Bool.false_eq_true, if_false] at hP; subst hP; exact Ev.bind (Ev.bind hr (Ev.now _)) ((Ev.now _).is (by simp))
 ·rw [h] at hP; simp only [if_true] at hP; obtain ⟨z, rfl, hz⟩ := hP; exact Ev.bind (Ev.bind hr (Ev.now _)) ((Ev.now _).is (by simp [hz]))
theorem And_loop (a : T71) (l : List T25) (g : T25 → Bool) (hl : l.length < 4294967296) : ∀ (n i : Nat) (R : Nat → T71 → T25 → Option Bool), (∀ s ∈ l, Ev (fun k => R k a s) (g s)) → i + n = l.length →
  ∃ r, Ev (fun k => slices_IndexFunc_60_l0 l a (R k) k (i : Int)) r ∧ (if (l.drop i).all g then r = Sum.inr () else ∃ z, r = Sum.inl z ∧ 0 ≤ z)
 | 0, i, R, hR, hn => by
  refine ⟨Sum.inr (), Ev.step (fun k => by rw [slices_IndexFunc_60_l0]) (Ev.neg (by omega) (Ev.now _)), ?_⟩; rw [List.drop_eq_nil_of_le (by omega)]; simp
 | n + 1, i, R, hR, hn => by
  have hi : i < l.length := by omega
  have hat : ((i : Nat) : Int).toNat = i := by omega
  have hs := (hR _ (getD_mem l z25 hi)).shift; rw [drop_getD l z25 hi, List.all_cons]
  cases hq : g (l.getD i z25)
  ·refine ⟨Sum.inl (i : Int), ?_, by simp⟩; refine Ev.step (fun k => by rw [slices_IndexFunc_60_l0]) ?_; refine Ev.pos (by omega) ?_; refine Ev.pos (by omega) ?_; rw [hat]; unfold deem_look_holds_2; refine Ev.bind (Ev.bind hs (Ev.now _)) ?_; rw [hq]; exact Ev.pos rfl (Ev.now _)
  ·obtain ⟨r, hr, hP⟩ := And_loop a l g hl n (i + 1) (fun k => R (k + 1)) (fun s hs => (hR s hs).shift) (by omega); refine ⟨r, ?_, by simpa using hP⟩; refine Ev.step (fun k => by rw [slices_IndexFunc_60_l0]) ?_; refine Ev.pos (by omega) ?_; refine Ev.pos (by omega) ?_; rw [hat]; unfold deem_look_holds_2; refine Ev.bind (Ev.bind hs (Ev.now _)) ?_; rw [hq, i64w (by omega), show ((i : Nat) : Int) + 1 = ((i + 1 : Nat) : Int) by omega]; exact Ev.neg (by simp) hr
theorem And_ev (a : T71) (l : List T25) (g : T25 → Bool) (hl : l.length < 4294967296) (R : Nat → T71 → T25 → Option Bool) (hR : ∀ s ∈ l, Ev (fun k => R k a s) (g s)) : Ev (fun k => slices_ContainsFunc_59 (R k) k l a) (!(l.all g)) := by
 obtain ⟨r, hr, hP⟩ := And_loop a l g hl l.length 0 R hR (by omega); rw [List.drop_zero] at hP; unfold slices_ContainsFunc_59 slices_IndexFunc_60
 cases h : l.all g
 ·rw [h] at hP; simp only [Bool.false_eq_true, if_false] at hP; obtain ⟨z, rfl, hz⟩ := hP; exact Ev.bind (Ev.bind hr (Ev.now _)) ((Ev.now _).is (by simp [hz]))
 ·rw [h] at hP; simp only [if_true] at hP; subst hP; exact Ev.bind (Ev.bind hr (Ev.now _)) ((Ev.now _).is (by simp))
theorem goodN_shape {d : Nat} {x : T25} (h : goodN (d + 1) x = true) : ((x.f0 = 1 ∨ x.f0 = 2) ∧ x.f1 = 0 ∧ x.f2.length = 1 ∧ x.f3.length = 0 ∨ x.f0 = 3 ∧ x.f1 = 0 ∧ 1 ≤ x.f2.length ∧ x.f2.length ≤ 16 ∧ x.f3.length = 0 ∨ x.f0 = 4 ∧ 0 ≤ x.f1 ∧ x.f1 ≤ 7 ∧ x.f2.length = 0 ∧ x.f3.length = 0 ∨
 (x.f0 = 5 ∨ x.f0 = 6) ∧ 0 ≤ x.f1 ∧ x.f1 ≤ 1099511627776 ∧ x.f2.length = 0 ∧ x.f3.length = 0 ∨ x.f0 = 9 ∧ x.f1 = 0 ∧ x.f2.length = 0 ∧ x.f3.length = 1 ∨ (x.f0 = 7 ∨ x.f0 = 8) ∧ x.f1 = 0 ∧ x.f2.length = 0 ∧ 2 ≤ x.f3.length) ∧ ∀ s ∈ x.f3, goodN d s = true := by
 simp only [goodN, Bool.and_eq_true, List.all_eq_true] at h; exact ⟨of_decide_eq_true h.1, h.2.2⟩
theorem holds_ev (a : T71) (hw : a.f5.length < 4294967296) : ∀ (d : Nat) (x : T25), SmallN d x → goodN d x = true → Ev (fun k => deem_look_holds k a x) (holdsN a.f0 a.f2 a.f5 d x)
 | 0, x, h, _ => h.elim
 | d + 1, x, ⟨h1, h2, h3, h4⟩, hg => by
  obtain ⟨hs, hgs⟩ := goodN_shape hg; have ih : ∀ s ∈ x.f3, Ev (fun k => deem_look_holds k a s) (holdsN a.f0 a.f2 a.f5 d s) := fun s hs => holds_ev a hw d s (h4 s hs) (hgs s hs)
  have id1 : ∀ {α : Type} (o : Option α), (o.bind fun s => some s) = o := fun o => by cases o <;> rfl
  refine Ev.step (fun k => by rw [deem_look_holds]) ?_; simp only [id1, holdsN]; have hcase : x.f0 = 1 ∨ x.f0 = 3 ∨ x.f0 = 2 ∨ x.f0 = 4 ∨ x.f0 = 5 ∨ x.f0 = 6 ∨ x.f0 = 8 ∨ x.f0 = 9 ∨ x.f0 = 7 := by omega
  rcases hcase with c | c | c | c | c | c | c | c | c
  ·rw [if_pos (by omega)]; exact Ev.pos c (Ev.pos c (Phrase_ev a.f5 x.f2 hw (by omega)))
  ·rw [if_pos (by omega)]; exact Ev.neg (by omega) (Ev.pos c (Phrase_ev a.f5 x.f2 hw (by omega)))
  ·rw [if_neg (by omega), if_pos c]; exact Ev.neg (by omega) (Ev.neg (by omega) (Ev.pos c (Pref_ev a.f5 hw x (by omega))))
  ·rw [if_neg (by omega), if_neg (by omega), if_pos c]; exact Ev.neg (by omega) (Ev.neg (by omega) (Ev.neg (by omega) (Ev.pos c (Ev.now _))))
  ·rw [if_neg (by omega), if_neg (by omega), if_neg (by omega), if_pos c]; exact Ev.neg (by omega) (Ev.neg (by omega) (Ev.neg (by omega) (Ev.neg (by omega) (Ev.pos c (Ev.now _)))))
  ·rw [if_neg (by omega), if_neg (by omega), if_neg (by omega), if_neg (by omega), if_pos c]; exact Ev.neg (by omega) (Ev.neg (by omega) (Ev.neg (by omega) (Ev.neg (by omega) (Ev.neg (by omega) (Ev.pos c (Ev.now _))))))
  ·rw [if_neg (by omega), if_neg (by omega), if_neg (by omega), if_neg (by omega), if_neg (by omega), if_pos c]; exact Ev.neg (by omega) (Ev.neg (by omega) (Ev.neg (by omega) (Ev.neg (by omega) (Ev.neg (by omega) (Ev.neg (by omega) (Ev.pos c (Or_ev a x.f3 _ (by omega) (fun k => deem_look_holds k) ih)))))))
  ·rw [if_neg (by omega), if_neg (by omega), if_neg (by omega), if_neg (by omega), if_neg (by omega), if_neg (by omega), if_pos c]; refine Ev.neg (by omega) (Ev.neg (by omega) (Ev.neg (by omega) (Ev.neg (by omega) (Ev.neg (by omega) (Ev.neg (by omega) (Ev.neg (by omega) (Ev.pos c (Ev.pos (by omega) ?_)))))))); unfold deem_look_holds_2; exact Ev.bind (ih _ (getD_mem x.f3 z25 (by omega))) (Ev.now _)
  ·rw [if_neg (by omega), if_neg (by omega), if_neg (by omega), if_neg (by omega), if_neg (by omega), if_neg (by omega), if_neg (by omega)]; refine Ev.neg (by omega) (Ev.neg (by omega) (Ev.neg (by omega) (Ev.neg (by omega) (Ev.neg (by omega) (Ev.neg (by omega) (Ev.neg (by omega) (Ev.neg (by omega) ?_))))))); exact Ev.bind (And_ev a x.f3 _ (by omega) (fun k => deem_look_holds k) ih) ((Ev.now _).is (by simp))
end Go.Proofs.YtbphlohiealbeaaGreatDoor.Pure
namespace Go.Proofs.YtbphlohiealbeaaGreatDoor.Pure
open Go Go.Gg Go.Gp Gf
set_option linter.unusedVariables false
set_option linter.unusedSimpArgs false
def recB (r : T31) : Bool := decide (0 ≤ r.f0 ∧ r.f0 < 8 ∧ 1 ≤ r.f1 ∧ r.f1 ≤ 1023 ∧ 0 ≤ r.f2 ∧ r.f2 ≤ 1099511627776 ∧ 0 ≤ r.f3 ∧ r.f3 ≤ 65535) && (decide (r.f4.size ≤ 120) && Lib.validD r.f4.data.toList)
theorem recMay_eq {r : T31} (h : r.f4.size ≤ 9223372036854775807) : record_May r = some (recB r) := by
 unfold record_May stamp_May stamp_wall recB; rw [May_eq h]; by_cases c : 0 ≤ r.f0 ∧ r.f0 < 8 ∧ 1 ≤ r.f1 ∧ r.f1 ≤ 1023 ∧ 0 ≤ r.f2 ∧ r.f2 ≤ 1099511627776 ∧ 0 ≤ r.f3 ∧ r.f3 ≤ 65535
 ·obtain ⟨a, b, e, f, g, i, j, l⟩ := c; simp [a, b, e, f, g, i, j, l]
 ·rw [decide_eq_false c]; simp only [Bool.false_and]; by_cases a : r.f0 ≥ 0
  ·by_cases b : r.f0 < 8
   ·by_cases e : r.f1 ≥ 1
    ·by_cases f : r.f1 ≤ 1023
     ·by_cases g : r.f2 ≥ 0
      ·by_cases i : r.f2 ≤ 1099511627776
       ·by_cases j : r.f3 ≥ 0
        ·have l : ¬ r.f3 ≤ 65535 := by omega
         simp [a, b, e, f, g, i, j, l]
        ·simp [a, b, e, f, g, i, j]
       ·simp [a, b, e, f, g, i]
      ·simp [a, b, e, f, g]
     ·simp [a, b, e, f]
    ·simp [a, b, e]
   ·simp [a, b]
  ·simp [a]
theorem OfD_len (s : ByteArray) : (OfD s).length ≤ 120 := by
 unfold OfD
 split
 ·rename_i h
  simp only [Bool.and_eq_true, decide_eq_true_eq] at h; obtain ⟨rs, hr, rfl⟩ := valid_bs h.2; rw [runesOf_bs rs hr, Wd_length]; rw [bs_size] at h; have := runs_len oth rs []; have := enc_length rs; simp [words] at *; omega
 ·simp
def holdsD (d : Nat) (x : T25) (r : T31) : Bool := mayB d x && (recB r && holdsN r.f0 r.f2 (OfD r.f4) d x)
theorem mayB_good {d : Nat} {x : T25} (h : mayB d x = true) : goodN d x = true := by
 unfold mayB at h; simp only [Bool.and_eq_true] at h; exact h.2.2
theorem Holds_ev {d : Nat} (hd : d < 1000) {x : T25} {r : T31} (h : SmallN d x) (hc : cntN d x ≤ 1000) (hr : r.f4.size ≤ 9223372036854775807) : Ev (fun k => deem_Holds k x r) (holdsD d x r) := by
 unfold deem_Holds holdsD; have hl := OfD_len r.f4; refine Ev.bind ?_ (Ev.now _); refine Ev.bind (askMay_ev hd h hc) ?_
 cases hm : mayB d x
 ·exact Ev.neg Bool.false_ne_true ((Ev.now _).is (by simp))
 refine Ev.pos rfl ?_; rw [recMay_eq hr]; refine Ev.name fun v hv => ?_
 cases hb : recB r
 ·exact Ev.neg (by rw [hv, hb]; simp) ((Ev.now _).is (by simp))
 refine Ev.pos (by rw [hv, hb]) ?_; refine Ev.bind (Of_ev hr) ?_; refine Ev.bind (holds_ev ⟨r.f0, r.f1, r.f2, r.f3, r.f4, OfD r.f4⟩ (by show (OfD r.f4).length < _; omega) d x h (mayB_good hm)) ?_; exact (Ev.now _).is (by simp)
theorem small_leaf {x : T25} (h1 : x.f2.length ≤ 300) (h2 : ∀ w ∈ x.f2, w.size ≤ 500) (h3 : x.f3 = []) : SmallN 1 x ∧ cntN 1 x ≤ 1000 := by
 refine ⟨⟨h1, h2, by rw [h3]; simp, by rw [h3]; simp⟩, ?_⟩; simp [cntN, h3]
end Go.Proofs.YtbphlohiealbeaaGreatDoor.Pure
