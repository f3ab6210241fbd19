
import Derived.Test.YtmgkpphbehamcaaGreatDoorF0
import Derived.Test.YtmgkpphbehamcaaGreatDoorPAsk
namespace Go.Proofs.YtmgkpphbehamcaaGreatDoor.Pure
open Go Go.Gg Go.Gp Gf
set_option linter.unusedVariables false
set_option linter.unusedSimpArgs false
theorem eta26 (x : T26) : (⟨x.f0, x.f1, x.f2, x.f3⟩ : T26) = x := by cases x; rfl
def mx (a b : Int) : Int := if b > a then b else a
def deepN : Nat → T26 → Int
 | 0, _ => 0
 | d + 1, x => ((x.f3.map (deepN d)).foldl mx 0) + 1
def termsN : Nat → T26 → Int
 | 0, _ => 0
 | d + 1, x => if x.f3 = [] then mx (x.f2.length : Int) 1 else (x.f3.map (termsN d)).sum
theorem mx_fold : ∀ (l : List Int) (a b : Int), 0 ≤ a → a ≤ b → (∀ x ∈ l, 0 ≤ x ∧ x ≤ b) → 0 ≤ l.foldl mx a ∧ l.foldl mx a ≤ b
 | [], a, b, h0, h1, _ => ⟨h0, h1⟩
 | x :: t, a, b, h0, h1, h => by
  have hx := h x (by simp); have : 0 ≤ mx a x ∧ mx a x ≤ b := by unfold mx; split <;> omega
  exact mx_fold t (mx a x) b this.1 this.2 (fun y hy => h y (by simp [hy]))
theorem deepN_bound : ∀ (d : Nat) (x : T26), 0 ≤ deepN d x ∧ deepN d x ≤ d
 | 0, x => by simp [deepN]
 | d + 1, x => by
  have := mx_fold (x.f3.map (deepN d)) 0 d (by omega) (by omega) (fun y hy => by
   obtain ⟨z, _, rfl⟩ := List.mem_map.1 hy; exact deepN_bound d z)
  simp only [deepN]; omega
theorem Deep_loop (x : T26) (g : T26 → Int) (hl : x.f3.length < 4294967296) : ∀ (n i : Nat) (acc : Int) (R : Nat → T26 → Option Int), (∀ s ∈ x.f3, Ev (fun k => R k s) (g s)) → i + n = x.f3.length →
  Ev (fun k => ask_Deep_l0 x (R k) k acc (i : Int)) (((x.f3.drop i).map g).foldl mx acc)
 | 0, i, acc, R, hR, hn => by
  refine Ev.step (fun k => by rw [ask_Deep_l0]) ?_; refine Ev.neg (by omega) ((Ev.now _).is ?_); rw [List.drop_eq_nil_of_le (by omega)]; rfl
 | n + 1, i, acc, R, hR, hn => by
  have hi : i < x.f3.length := by omega
  refine Ev.step (fun k => by rw [ask_Deep_l0]) ?_; refine Ev.pos (by omega) ?_; refine Ev.pos (by omega) ?_; rw [show ((i : Nat) : Int).toNat = i by omega]; rw [eta26]; refine Ev.bind (hR _ (getD_mem x.f3 z26 hi)).shift ?_; rw [i64w (by omega), show ((i : Nat) : Int) + 1 = ((i + 1 : Nat) : Int) by omega, drop_getD x.f3 z26 hi]; exact Deep_loop x g hl n (i + 1) (mx acc (g (x.f3.getD i z26))) (fun k => R (k + 1)) (fun s hs => (hR s hs).shift) (by omega)
theorem Deep_ev : ∀ (d : Nat) (x : T26), d < 1000 → SmallN d x → Ev (fun k => ask_Deep k x) (deepN d x)
 | 0, x, _, h => h.elim
 | d + 1, x, hd, ⟨h1, h2, h3, h4⟩ => by
  refine Ev.step (fun k => by rw [ask_Deep]) ?_; refine Ev.bind (Deep_loop x (deepN d) (by omega) x.f3.length 0 0 (fun k => ask_Deep k) (fun s hs => Deep_ev d s (by omega) (h4 s hs)) (by omega)) ?_; have := deepN_bound (d + 1) x; simp only [deepN] at this; refine (Ev.now _).is ?_; rw [List.drop_zero, i64w (by omega)]; rfl
theorem termsN_bound : ∀ (d : Nat) (x : T26), SmallN d x → 0 ≤ termsN d x ∧ termsN d x ≤ 300 * cntN d x
 | 0, x, h => h.elim
 | d + 1, x, ⟨h1, h2, h3, h4⟩ => by
  simp only [termsN, cntN]; have key : ∀ l : List T26, (∀ s ∈ l, SmallN d s) → 0 ≤ (l.map (termsN d)).sum ∧ (l.map (termsN d)).sum ≤ 300 * (l.map (cntN d)).sum := by
   intro l
   induction l with
   | nil => intro _; simp
   | cons y t ih =>
    intro h; have a := termsN_bound d y (h y (by simp)); have b := ih (fun s hs => h s (by simp [hs])); simp only [List.map_cons, List.sum_cons]; omega
  have := key x.f3 h4; have := sum_pos d x.f3
  split
  ·unfold mx; split <;> omega
  ·omega
theorem Terms_loop (x : T26) (g : T26 → Int) (hl : x.f3.length < 4294967296) (hg : ∀ s ∈ x.f3, 0 ≤ g s) (hb : (x.f3.map g).sum < 4294967296) : ∀ (n i : Nat) (R : Nat → T26 → Option Int), (∀ s ∈ x.f3, Ev (fun k => R k s) (g s)) → i + n = x.f3.length →
  Ev (fun k => ask_Terms_l0 x (R k) k ((x.f3.take i).map g).sum (i : Int)) (x.f3.map g).sum
 | 0, i, R, hR, hn => by
  refine Ev.step (fun k => by rw [ask_Terms_l0]) ?_; refine Ev.neg (by omega) ((Ev.now _).is ?_); rw [List.take_of_length_le (by omega)]
 | n + 1, i, R, hR, hn => by
  have hi : i < x.f3.length := by omega
  have nonneg : ∀ l : List T26, (∀ s ∈ l, s ∈ x.f3) → 0 ≤ (l.map g).sum := by
   intro l
   induction l with
   | nil => intro _; simp
   | cons y t ih => intro h; have := hg y (h y (by simp)); have := ih (fun s hs => h s (by simp [hs])); simp; omega
  have e1 := nonneg (x.f3.take i) (fun s hs => List.mem_of_mem_take hs); have e2 := nonneg (x.f3.drop (i + 1)) (fun s hs => List.mem_of_mem_drop hs); have e3 := hg _ (getD_mem x.f3 z26 hi); have e4 : (x.f3.map g).sum = ((x.f3.take i).map g).sum + (g (x.f3.getD i z26) + ((x.f3.drop (i + 1)).map g).sum) := by
   conv => lhs; rw [parts_getD x.f3 z26 hi]
   simp
  have e5 : ((x.f3.take (i + 1)).map g).sum = ((x.f3.take i).map g).sum + g (x.f3.getD i z26) := by rw [take_getD x.f3 z26 hi]; simp
  refine Ev.step (fun k => by rw [ask_Terms_l0]) ?_; refine Ev.pos (by omega) ?_; refine Ev.pos (by omega) ?_; rw [show ((i : Nat) : Int).toNat = i by omega]; rw [eta26]; refine Ev.bind (hR _ (getD_mem x.f3 z26 hi)).shift ?_; rw [i64w (by omega), i64w (by omega), ← e5, show ((i : Nat) : Int) + 1 = ((i + 1 : Nat) : Int) by omega]; exact Terms_loop x g hl hg hb n (i + 1) (fun k => R (k + 1)) (fun s hs => (hR s hs).shift) (by omega)
theorem Terms_ev : ∀ (d : Nat) (x : T26), SmallN d x → cntN d x ≤ 1000 → Ev (fun k => ask_Terms k x) (termsN d x)
 | 0, x, h, _ => h.elim
 | d + 1, x, hs, hc => by
  have hs' := hs; obtain ⟨h1, h2, h3, h4⟩ := hs; have hcs : ∀ s ∈ x.f3, cntN d s ≤ 1000 := by
   intro s hs; simp only [cntN] at hc; have key : ∀ l : List T26, s ∈ l → cntN d s ≤ (l.map (cntN d)).sum := by
    intro l
    induction l with
    | nil => intro h; simp at h
    | cons y t ih =>
     intro h; have := cntN_pos d y; have := sum_pos d t; simp only [List.map_cons, List.sum_cons]; rcases List.mem_cons.1 h with rfl | h
     ·omega
     ·have := ih h; omega
   have := key x.f3 hs; omega
  have hb := termsN_bound (d + 1) x hs'; refine Ev.step (fun k => by rw [ask_Terms]) ?_; by_cases he : x.f3 = []
  ·refine Ev.pos (by rw [he]; rfl) ((Ev.now _).is ?_); simp only [termsN, he, if_true, mx]
  ·have hl : ¬ (x.f3.length : Int) = 0 := by have := List.length_pos_iff.2 he; omega
   refine Ev.neg hl ?_; simp only [termsN, he, if_false] at hb ⊢; have := Terms_loop x (termsN d) (by omega) (fun s hs => (termsN_bound d s (h4 s hs)).1) (by omega) x.f3.length 0 (fun k => ask_Terms k) (fun s hs => Terms_ev d s (h4 s hs) (hcs s hs)) (by omega); refine Ev.bind this (Ev.now _)
end Go.Proofs.YtmgkpphbehamcaaGreatDoor.Pure
