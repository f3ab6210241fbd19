
import Derived.Test.YtmgkpphbehamcaaGreatDoorF0
import Derived.Test.YtmgkpphbehamcaaGreatDoorF1
import Derived.Test.YtmgkpphbehamcaaGreatDoorF2
import Derived.Test.YtmgkpphbehamcaaGreatDoorF3
import Derived.Test.YtmgkpphbehamcaaGreatDoorF4
import Derived.Test.YtmgkpphbehamcaaGreatDoorF5
import Derived.Test.YtmgkpphbehamcaaGreatDoorF6
import Derived.Test.YtmgkpphbehamcaaGreatDoorF7
import Derived.Test.YtmgkpphbehamcaaGreatDoorF8
import Derived.Test.YtmgkpphbehamcaaGreatDoorGgT
namespace Go.Proofs.YtmgkpphbehamcaaGreatDoor.Pure
open Go Go.Gg Go.Gp Gf
set_option linter.unusedVariables false
set_option linter.unusedSimpArgs false
def oth (r : Int) : Bool := !(Lib.isLetterU r || Lib.isDigitU r)
def words (rs : List Int) : List ByteArray := (runs oth [] rs).map fun c => bs (c.map Lib.toLowerU)
theorem letter_eq {r : Int} (h : Sc r) : tokens_letter r = some (!(oth r)) := by
 unfold Sc at h; have hs : -2147483648 ≤ r ∧ r ≤ 2147483647 := by omega
 unfold tokens_letter unicode_IsLetter unicode_IsDigit oth; rw [if_pos hs, if_pos hs]
 cases Lib.isLetterU r <;> simp
theorem other_eq {r : Int} (h : -2147483648 ≤ r ∧ r ≤ 2147483647) : tokens_other r = some (oth r) := by
 unfold tokens_other tokens_letter unicode_IsLetter unicode_IsDigit oth; rw [if_pos h, if_pos h]
 cases Lib.isLetterU r <;> simp
theorem other_ok : RunesOk tokens_other := fun x hx => by rw [other_eq (by omega)]; rfl
theorem other_get {r : Int} (h : Sc r) : (tokens_other ((r.toNat : Nat) : Int)).getD false = oth r := by
 rw [sc_cast h, other_eq (by unfold Sc at h; omega)]; rfl
theorem valid_eq {s : ByteArray} (h : s.size ≤ 9223372036854775807) : utf8_ValidString s = some (Lib.validD s.data.toList) := by unfold utf8_ValidString; rw [if_pos h]
theorem May_eq {s : ByteArray} (h : s.size ≤ 9223372036854775807) : tokens_May s = some (decide (s.size ≤ 120) && Lib.validD s.data.toList) := by
 unfold tokens_May; rw [valid_eq h]; by_cases h1 : s.size ≤ 120
 ·rw [if_pos (by omega)]; simp [h1]
 ·rw [if_neg (by omega)]; simp [h1]
theorem Norm_eq {s : ByteArray} (h : s.size ≤ 35184372088832) : tokens_Norm s = some (normD s) := if_pos h
theorem normD_not {s : ByteArray} (h : Lib.validD s.data.toList = false) : normD s = ⟨#[]⟩ := by unfold normD; rw [if_neg (by simp [h])]
def oneD (s : ByteArray) : Bool := Lib.validD s.data.toList && (decide (runesOf s ≠ []) && (runesOf s).all fun r => !(oth r))
theorem One_ev {s : ByteArray} (hs : s.size ≤ 9223372036854775807) : tokens_One s = some (oneD s) := by
 unfold tokens_One oneD; rw [valid_eq hs]; by_cases h0 : s.data.toList = []
 ·have : s = bs [] := by apply ByteArray.ext; apply Array.toList_inj.1; rw [h0, bs_toList]; rfl
  subst this; rw [runesOf_bs [] (by simp)]; simp [bs, enc]
 ·have e0 : (!(s.toList == (⟨#[]⟩ : ByteArray).toList)) = true := by
   have hne : s ≠ (⟨#[]⟩ : ByteArray) := fun e => h0 (by rw [e])
   have : s.toList ≠ (⟨#[]⟩ : ByteArray).toList := fun e => hne ((toList_inj _ _).1 e)
   rw [Bool.not_eq_true', beq_eq_false_iff_ne]; exact this
  rw [if_pos e0]
  cases hv : Lib.validD s.data.toList
  ·simp
  ·obtain ⟨rs, hr, rfl⟩ := valid_bs hv; have hne : rs ≠ [] := fun e => h0 (by rw [e, bs_toList]; rfl)
   rw [runesOf_bs rs hr]; unfold strings_ContainsFunc; rw [if_pos other_ok, idxFunc_bs _ rs hr]; have : (rs.any fun r => (tokens_other ((r.toNat : Nat) : Int)).getD false) = rs.any oth := by
    rw [Bool.eq_iff_iff, List.any_eq_true, List.any_eq_true]; exact ⟨fun ⟨x, hx, h⟩ => ⟨x, hx, by rw [← other_get (hr x hx)]; exact h⟩, fun ⟨x, hx, h⟩ => ⟨x, hx, by rw [other_get (hr x hx)]; exact h⟩⟩
   simp only [Option.bind_some, if_true]; rw [this, List.all_eq_not_any_not]; simp [hne]
end Go.Proofs.YtmgkpphbehamcaaGreatDoor.Pure
namespace Go.Gp
open Go Go.Gg
theorem Ev.shift {α : Type} {f : Nat → Option α} {r : α} (h : Ev f r) : Ev (fun k => f (k + 1)) r := by
 obtain ⟨K, h⟩ := h; exact ⟨K, fun k hk => h (k + 1) (by omega)⟩
end Go.Gp
namespace Go.Proofs.YtmgkpphbehamcaaGreatDoor.Pure
open Go Go.Gg Go.Gp Gf
set_option linter.unusedVariables false
set_option linter.unusedSimpArgs false
def cntN : Nat → T26 → Int
 | 0, _ => 0
 | d + 1, x => 1 + (x.f3.map (cntN d)).sum
def SmallN : Nat → T26 → Prop
 | 0, _ => False
 | d + 1, x => x.f2.length ≤ 300 ∧ (∀ w ∈ x.f2, w.size ≤ 5000) ∧ x.f3.length ≤ 1000 ∧ ∀ s ∈ x.f3, SmallN d s
theorem cntN_pos : ∀ (d : Nat) (x : T26), 0 ≤ cntN d x
 | 0, x => by simp [cntN]
 | d + 1, x => by
  have key : ∀ l : List T26, 0 ≤ (l.map (cntN d)).sum := by
   intro l
   induction l with
   | nil => simp
   | cons y t ih => have := cntN_pos d y; simp; omega
  have := key x.f3; simp only [cntN]; omega
theorem sum_pos (d : Nat) (l : List T26) : 0 ≤ (l.map (cntN d)).sum := by
 induction l with
 | nil => simp
 | cons y t ih => have := cntN_pos d y; simp; omega
theorem sum_len (d : Nat) : ∀ (l : List T26), (∀ x ∈ l, SmallN d x) → (l.length : Int) ≤ (l.map (cntN d)).sum
 | [], _ => by simp
 | y :: t, h => by
  have h1 := sum_len d t (fun x hx => h x (by simp [hx])); have h2 : 1 ≤ cntN d y := by
   cases d with
   | zero => exact (h y (by simp)).elim
   | succ d => have := sum_pos d y.f3; simp only [cntN]; omega
  simp only [List.length_cons, List.map_cons, List.sum_cons]; omega
end Go.Proofs.YtmgkpphbehamcaaGreatDoor.Pure
namespace Go.Proofs.YtmgkpphbehamcaaGreatDoor.Pure
open Go Go.Gg Go.Gp Gf
set_option linter.unusedVariables false
set_option linter.unusedSimpArgs false
theorem eta26 (x : T26) : (⟨x.f0, x.f1, x.f2, x.f3⟩ : T26) = x := by cases x; rfl
def mx (a b : Int) : Int := if b > a then b else a
def deepN : Nat → T26 → Int
 | 0, _ => 0
 | d + 1, x => ((x.f3.map (deepN d)).foldl mx 0) + 1
def termsN : Nat → T26 → Int
 | 0, _ => 0
 | d + 1, x => if x.f3 = [] then mx (x.f2.length : Int) 1 else (x.f3.map (termsN d)).sum
theorem mx_fold : ∀ (l : List Int) (a b : Int), 0 ≤ a → a ≤ b → (∀ x ∈ l, 0 ≤ x ∧ x ≤ b) → 0 ≤ l.foldl mx a ∧ l.foldl mx a ≤ b
 | [], a, b, h0, h1, _ => ⟨h0, h1⟩
 | x :: t, a, b, h0, h1, h => by
  have hx := h x (by simp); have : 0 ≤ mx a x ∧ mx a x ≤ b := by unfold mx; split <;> omega
  exact mx_fold t (mx a x) b this.1 this.2 (fun y hy => h y (by simp [hy]))
theorem deepN_bound : ∀ (d : Nat) (x : T26), 0 ≤ deepN d x ∧ deepN d x ≤ d
 | 0, x => by simp [deepN]
 | d + 1, x => by
  have := mx_fold (x.f3.map (deepN d)) 0 d (by omega) (by omega) (fun y hy => by
   obtain ⟨z, _, rfl⟩ := List.mem_map.1 hy; exact deepN_bound d z)
  simp only [deepN]; omega
theorem Deep_loop (x : T26) (g : T26 → Int) (hl : x.f3.length < 4294967296) : ∀ (n i : Nat) (acc : Int) (R : Nat → T26 → Option Int), (∀ s ∈ x.f3, Ev (fun k => R k s) (g s)) → i + n = x.f3.length →
  Ev (fun k => ask_Deep_l0 x (R k) k acc (i : Int)) (((x.f3.drop i).map g).foldl mx acc)
 | 0, i, acc, R, hR, hn => by
  refine Ev.step (fun k => by rw [ask_Deep_l0]) ?_; refine Ev.neg (by omega) ((Ev.now _).is ?_); rw [List.drop_eq_nil_of_le (by omega)]; rfl
 | n + 1, i, acc, R, hR, hn => by
  have hi : i < x.f3.length := by omega
  refine Ev.step (fun k => by rw [ask_Deep_l0]) ?_; refine Ev.pos (by omega) ?_; refine Ev.pos (by omega) ?_; rw [show ((i : Nat) : Int).toNat = i by omega]; rw [eta26]; refine Ev.bind (hR _ (getD_mem x.f3 z26 hi)).shift ?_; rw [i64w (by omega), show ((i : Nat) : Int) + 1 = ((i + 1 : Nat) : Int) by omega, drop_getD x.f3 z26 hi]; exact Deep_loop x g hl n (i + 1) (mx acc (g (x.f3.getD i z26))) (fun k => R (k + 1)) (fun s hs => (hR s hs).shift) (by omega)
theorem Deep_ev : ∀ (d : Nat) (x : T26), d < 1000 → SmallN d x → Ev (fun k => ask_Deep k x) (deepN d x)
 | 0, x, _, h => h.elim
 | d + 1, x, hd, ⟨h1, h2, h3, h4⟩ => by
  refine Ev.step (fun k => by rw [ask_Deep]) ?_; refine Ev.bind (Deep_loop x (deepN d) (by omega) x.f3.length 0 0 (fun k => ask_Deep k) (fun s hs => Deep_ev d s (by omega) (h4 s hs)) (by omega)) ?_; have := deepN_bound (d + 1) x; simp only [deepN] at this; refine (Ev.now _).is ?_; rw [List.drop_zero, i64w (by omega)]; rfl
theorem termsN_bound : ∀ (d : Nat) (x : T26), SmallN d x → 0 ≤ termsN d x ∧ termsN d x ≤ 300 * cntN d x
 | 0, x, h => h.elim
 | d + 1, x, ⟨h1, h2, h3, h4⟩ => by
  simp only [termsN, cntN]; have key : ∀ l : List T26, (∀ s ∈ l, SmallN d s) → 0 ≤ (l.map (termsN d)).sum ∧ (l.map (termsN d)).sum ≤ 300 * (l.map (cntN d)).sum := by
   intro l
   induction l with
   | nil => intro _; simp
   | cons y t ih =>
    intro h; have a := termsN_bound d y (h y (by simp)); have b := ih (fun s hs => h s (by simp [hs])); simp only [List.map_cons, List.sum_cons]; omega
  have := key x.f3 h4; have := sum_pos d x.f3
  split
  ·unfold mx; split <;> omega
  ·omega
theorem Terms_loop (x : T26) (g : T26 → Int) (hl : x.f3.length < 4294967296) (hg : ∀ s ∈ x.f3, 0 ≤ g s) (hb : (x.f3.map g).sum < 4294967296) : ∀ (n i : Nat) (R : Nat → T26 → Option Int), (∀ s ∈ x.f3, Ev (fun k => R k s) (g s)) → i + n = x.f3.length →
  Ev (fun k => ask_Terms_l0 x (R k) k ((x.f3.take i).map g).sum (i : Int)) (x.f3.map g).sum
 | 0, i, R, hR, hn => by
  refine Ev.step (fun k => by rw [ask_Terms_l0]) ?_; refine Ev.neg (by omega) ((Ev.now _).is ?_); rw [List.take_of_length_le (by omega)]
 | n + 1, i, R, hR, hn => by
  have hi : i < x.f3.length := by omega
  have nonneg : ∀ l : List T26, (∀ s ∈ l, s ∈ x.f3) → 0 ≤ (l.map g).sum := by
   intro l
   induction l with
   | nil => intro _; simp
   | cons y t ih => intro h; have := hg y (h y (by simp)); have := ih (fun s hs => h s (by simp [hs])); simp; omega
  have e1 := nonneg (x.f3.take i) (fun s hs => List.mem_of_mem_take hs); have e2 := nonneg (x.f3.drop (i + 1)) (fun s hs => List.mem_of_mem_drop hs); have e3 := hg _ (getD_mem x.f3 z26 hi); have e4 : (x.f3.map g).sum = ((x.f3.take i).map g).sum + (g (x.f3.getD i z26) + ((x.f3.drop (i + 1)).map g).sum) := by
   conv => lhs; rw [parts_getD x.f3 z26 hi]
   simp
  have e5 : ((x.f3.take (i + 1)).map g).sum = ((x.f3.take i).map g).sum + g (x.f3.getD i z26) := by rw [take_getD x.f3 z26 hi]; simp
  refine Ev.step (fun k => by rw [ask_Terms_l0]) ?_; refine Ev.pos (by omega) ?_; refine Ev.pos (by omega) ?_; rw [show ((i : Nat) : Int).toNat = i by omega]; rw [eta26]; refine Ev.bind (hR _ (getD_mem x.f3 z26 hi)).shift ?_; rw [i64w (by omega), i64w (by omega), ← e5, show ((i : Nat) : Int) + 1 = ((i + 1 : Nat) : Int) by omega]; exact Terms_loop x g hl hg hb n (i + 1) (fun k => R (k + 1)) (fun s hs => (hR s hs).shift) (by omega)
theorem Terms_ev : ∀ (d : Nat) (x : T26), SmallN d x → cntN d x ≤ 1000 → Ev (fun k => ask_Terms k x) (termsN d x)
 | 0, x, h, _ => h.elim
 | d + 1, x, hs, hc => by
  have hs' := hs; obtain ⟨h1, h2, h3, h4⟩ := hs; have hcs : ∀ s ∈ x.f3, cntN d s ≤ 1000 := by
   intro s hs; simp only [cntN] at hc; have key : ∀ l : List T26, s ∈ l → cntN d s ≤ (l.map (cntN d)).sum := by
    intro l
    induction l with
    | nil => intro h; simp at h
    | cons y t ih =>
     intro h; have := cntN_pos d y; have := sum_pos d t; simp only [List.map_cons, List.sum_cons]; rcases List.mem_cons.1 h with rfl | h
     ·omega
     ·have := ih h; omega
   have := key x.f3 hs; omega
  have hb := termsN_bound (d + 1) x hs'; refine Ev.step (fun k => by rw [ask_Terms]) ?_; by_cases he : x.f3 = []
  ·refine Ev.pos (by rw [he]; rfl) ((Ev.now _).is ?_); simp only [termsN, he, if_true, mx]
  ·have hl : ¬ (x.f3.length : Int) = 0 := by have := List.length_pos_iff.2 he; omega
   refine Ev.neg hl ?_; simp only [termsN, he, if_false] at hb ⊢; have := Terms_loop x (termsN d) (by omega) (fun s hs => (termsN_bound d s (h4 s hs)).1) (by omega) x.f3.length 0 (fun k => ask_Terms k) (fun s hs => Terms_ev d s (h4 s hs) (hcs s hs)) (by omega); refine Ev.bind this (Ev.now _)
end Go.Proofs.YtmgkpphbehamcaaGreatDoor.Pure
