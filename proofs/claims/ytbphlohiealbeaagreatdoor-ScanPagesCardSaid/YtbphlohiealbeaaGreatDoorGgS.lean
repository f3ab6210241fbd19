/- Plain laws on sorting: what is sorted and keeps equals in their order is one list; swaps and parts of lists. Nothing of any one program is said here. -/
import Derived.Test.YtbphlohiealbeaaGreatDoorGgP
import Derived.Test.YtbphlohiealbeaaGreatDoorGgI
namespace Go.Gp
open Go Go.Gg
set_option linter.unusedSimpArgs false
section
variable {α : Type}
structure SWO (lt : α → α → Bool) : Prop where
 irr : ∀ a, lt a a = false
 tr : ∀ a b c, lt a b = true → lt b c = true → lt a c = true
 neg : ∀ a b c, lt a b = true → lt a c = true ∨ lt c b = true
variable {lt : α → α → Bool}
def eqv (lt : α → α → Bool) (a b : α) : Bool := !lt a b && !lt b a
def Srt (lt : α → α → Bool) (xs : List α) : Prop := xs.Pairwise fun a b => lt b a = false
def SE (lt : α → α → Bool) (xs ys : List α) : Prop := ∀ x, xs.filter (eqv lt x) = ys.filter (eqv lt x)
theorem SWO.asym (h : SWO lt) {a b : α} (e : lt a b = true) : lt b a = false := by
 cases e2 : lt b a
 ·rfl
 ·have := h.tr a b a e e2; rw [h.irr] at this; cases this
theorem SWO.ntr (h : SWO lt) {a b c : α} (e : lt b a = false) (e2 : lt c b = false) : lt c a = false := by
 cases e3 : lt c a
 ·rfl
 ·rcases h.neg c a b e3 with h1 | h1
  ·rw [e2] at h1; cases h1
  ·rw [e] at h1; cases h1
theorem eqv_iff {a b : α} : eqv lt a b = true ↔ lt a b = false ∧ lt b a = false := by simp [eqv]
theorem SWO.eqv_refl (h : SWO lt) (a : α) : eqv lt a a = true := by simp [eqv, h.irr]
theorem SE.refl (xs : List α) : SE lt xs xs := fun _ => rfl
theorem SE.symm {xs ys : List α} (h : SE lt xs ys) : SE lt ys xs := fun x => (h x).symm
theorem SE.trans {xs ys zs : List α} (h : SE lt xs ys) (h' : SE lt ys zs) : SE lt xs zs := fun x => (h x).trans (h' x)
theorem SE.append {xs xs' ys ys' : List α} (h : SE lt xs xs') (h' : SE lt ys ys') : SE lt (xs ++ ys) (xs' ++ ys') := fun x => by simp [List.filter_append, h x, h' x]
theorem SE.mem (hw : SWO lt) {xs ys : List α} (h : SE lt xs ys) {x : α} (hx : x ∈ xs) : x ∈ ys := by
 have : x ∈ xs.filter (eqv lt x) := List.mem_filter.2 ⟨hx, hw.eqv_refl x⟩; rw [h x] at this; exact (List.mem_filter.1 this).1
theorem filter_none {p : α → Bool} {xs : List α} (h : ∀ x ∈ xs, p x = false) : xs.filter p = [] := by
 rw [List.filter_eq_nil_iff]; intro x hx; rw [h x hx]; simp
theorem SE.swap (hw : SWO lt) {us vs : List α} (h : ∀ x ∈ us, ∀ y ∈ vs, lt y x = true) : SE lt (us ++ vs) (vs ++ us) := by
 intro x; simp only [List.filter_append]; by_cases e : ∃ y ∈ us, eqv lt x y = true
 ·obtain ⟨y, hy, hxy⟩ := e; have h0 : vs.filter (eqv lt x) = [] := filter_none fun z hz => by
   cases hc : eqv lt x z
   ·rfl
   ·have h1 := eqv_iff.1 hxy; have h2 := eqv_iff.1 hc; have h3 := h y hy z hz; rcases hw.neg z y x h3 with h4 | h4
    ·rw [h2.2] at h4; cases h4
    ·rw [h1.1] at h4; cases h4
  rw [h0, List.append_nil, List.nil_append]
 ·have h0 : us.filter (eqv lt x) = [] := filter_none fun z hz => by
   cases hc : eqv lt x z
   ·rfl
   ·exact absurd ⟨z, hz, hc⟩ e
  rw [h0, List.append_nil, List.nil_append]
theorem SE.len (hw : SWO lt) : ∀ {xs ys : List α}, SE lt xs ys → ∀ p : α → Bool, (∀ a b, p a = true → p b = true → eqv lt a b = true) → (xs.filter p).length = (ys.filter p).length := by
 intro xs ys h p hp; by_cases e : ∃ x, x ∈ xs ∧ p x = true
 ·obtain ⟨x, _, hx⟩ := e; have key : ∀ l : List α, l.filter p = (l.filter (eqv lt x)).filter p := fun l => by
   rw [List.filter_filter]
   congr 1
   funext z
   cases hz : p z
   ·simp
   ·simp [hp x z hx hz]
  rw [key xs, key ys, h x]
 ·by_cases e' : ∃ x, x ∈ ys ∧ p x = true
  ·obtain ⟨x, hm, hx⟩ := e'; exact absurd ⟨x, SE.mem hw h.symm hm, hx⟩ e
  ·rw [filter_none, filter_none]
   ·intro x hx; cases hc : p x
    ·rfl
    ·exact absurd ⟨x, hx, hc⟩ e'
   ·intro x hx; cases hc : p x
    ·rfl
    ·exact absurd ⟨x, hx, hc⟩ e
theorem Srt.uniq (hw : SWO lt) : ∀ {ys zs : List α}, Srt lt ys → Srt lt zs → SE lt ys zs → ys = zs := by
 intro ys
 induction ys with
 | nil =>
  intro zs _ _ h
  cases zs with
  | nil => rfl
  | cons z zs => have := SE.mem hw h.symm (x := z) (by simp); cases this
 | cons y ys ih =>
  intro zs hy hz h
  cases zs with
  | nil => have := SE.mem hw h (x := y) (by simp); cases this
  | cons z zs =>
   have hyz := List.pairwise_cons.1 hy; have hzz := List.pairwise_cons.1 hz; have h1 : lt y z = false := by
    have := SE.mem hw h (x := y) (by simp); rcases List.mem_cons.1 this with e | e
    ·rw [e]; exact hw.irr z
    ·exact hzz.1 y e
   have h2 : lt z y = false := by
    have := SE.mem hw h.symm (x := z) (by simp); rcases List.mem_cons.1 this with e | e
    ·rw [e]; exact hw.irr y
    ·exact hyz.1 z e
   have h3 : eqv lt y z = true := eqv_iff.2 ⟨h1, h2⟩; have h4 := h y; rw [List.filter_cons_of_pos (hw.eqv_refl y), List.filter_cons_of_pos h3] at h4; obtain ⟨rfl, h4⟩ := List.cons.inj h4
   congr 1
   refine ih hyz.2 hzz.2 fun x => ?_
   have h5 := h x
   cases e : eqv lt x y
   ·rw [List.filter_cons_of_neg (by simp [e]), List.filter_cons_of_neg (by simp [e])] at h5; exact h5
   ·rw [List.filter_cons_of_pos e, List.filter_cons_of_pos e] at h5; exact (List.cons.inj h5).2
theorem Srt.append {us vs : List α} (hu : Srt lt us) (hv : Srt lt vs) (h : ∀ x ∈ us, ∀ y ∈ vs, lt y x = false) : Srt lt (us ++ vs) := List.pairwise_append.2 ⟨hu, hv, h⟩
theorem Srt.sub {l l' : List α} (h : Srt lt l) (hs : l'.Sublist l) : Srt lt l' := List.Pairwise.sublist hs h
def swp (z : α) (l : List α) (i j : Nat) : List α := (l.set i (l.getD j z)).set j (l.getD i z)
theorem swp_mid (z : α) (p w q : List α) (x y : α) : swp z (p ++ x :: (w ++ y :: q)) p.length (p.length + 1 + w.length) = p ++ y :: (w ++ x :: q) := by
 have e1 : (p ++ x :: (w ++ y :: q)).getD p.length z = x := by simp [List.getD_eq_getElem?_getD]
 have e2 : (p ++ x :: (w ++ y :: q)).getD (p.length + 1 + w.length) z = y := by
  simp only [List.getD_eq_getElem?_getD]; rw [List.getElem?_append_right (by omega), show p.length + 1 + w.length - p.length = w.length + 1 by omega, List.getElem?_cons_succ, List.getElem?_append_right (by omega)]; simp
 unfold swp; rw [e1, e2, List.set_append_right _ _ (by omega), Nat.sub_self, List.set_cons_zero, List.set_append_right _ _ (by omega),
  show p.length + 1 + w.length - p.length = w.length + 1 by omega, List.set_cons_succ, List.set_append_right _ _ (by omega), Nat.sub_self, List.set_cons_zero]
theorem swp_mid' (z : α) (p w q : List α) (x y : α) : swp z (p ++ x :: (w ++ y :: q)) (p.length + 1 + w.length) p.length = p ++ y :: (w ++ x :: q) := by
 have e1 : (p ++ x :: (w ++ y :: q)).getD p.length z = x := by simp [List.getD_eq_getElem?_getD]
 have e2 : (p ++ x :: (w ++ y :: q)).getD (p.length + 1 + w.length) z = y := by
  simp only [List.getD_eq_getElem?_getD]; rw [List.getElem?_append_right (by omega), show p.length + 1 + w.length - p.length = w.length + 1 by omega, List.getElem?_cons_succ, List.getElem?_append_right (by omega)]; simp
 unfold swp; rw [e1, e2, List.set_append_right _ _ (by omega), show p.length + 1 + w.length - p.length = w.length + 1 by omega, List.set_cons_succ, List.set_append_right _ _ (by omega), Nat.sub_self, List.set_cons_zero,
  List.set_append_right _ _ (by omega), Nat.sub_self, List.set_cons_zero]
end
end Go.Gp
namespace Go.Gp
open Go Go.Gg
set_option linter.unusedVariables false

def Bytes (l : List Int) : Prop := ∀ x ∈ l, 0 ≤ x ∧ x < 256
theorem Bytes.of {l : List Int} (h : ∀ x ∈ l, (Lit.int .u8 x).wf = true) : Bytes l := fun x hx => wf_u8 (h x hx)
theorem Bytes.nil : Bytes [] := fun x hx => by simp at hx
theorem Bytes.left {a b : List Int} (h : Bytes (a ++ b)) : Bytes a := fun x hx => h x (List.mem_append.2 (.inl hx))
theorem Bytes.right {a b : List Int} (h : Bytes (a ++ b)) : Bytes b := fun x hx => h x (List.mem_append.2 (.inr hx))
theorem Bytes.take {a : List Int} (ha : Bytes a) (n : Nat) : Bytes (a.take n) := fun x hx => ha x (List.mem_of_mem_take hx)
theorem Bytes.drop {a : List Int} (ha : Bytes a) (n : Nat) : Bytes (a.drop n) := fun x hx => ha x (List.mem_of_mem_drop hx)
theorem getD_over {α : Type} (v : List α) (d : α) {i : Nat} (h : v.length ≤ i) : v.getD i d = d := by
  simp [List.getD_eq_getElem?_getD, List.getElem?_eq_none h]
theorem Bytes.get {a : List Int} (ha : Bytes a) (n : Nat) : 0 ≤ a.getD n 0 ∧ a.getD n 0 < 256 := by
  by_cases h : n < a.length
  · exact ha _ (getD_mem a 0 h)
  · rw [getD_over a 0 (by omega)]; omega
theorem step64 (i : Nat) (h : i < 4294967296) : IntKind.i64.wrap ((i : Int) + 1) = ((i + 1 : Nat) : Int) := by rw [i64w (by omega)]; omega
theorem getD_app_left {α : Type} (a b : List α) (d : α) {i : Nat} (h : i < a.length) : (a ++ b).getD i d = a.getD i d := by
  rw [getD_eq _ d (by simp; omega), getD_eq a d h, List.getElem_append_left h]
theorem getD_app_right {α : Type} (a b : List α) (d : α) (i : Nat) : (a ++ b).getD (a.length + i) d = b.getD i d := by
  rw [List.getD_eq_getElem?_getD, List.getElem?_append_right (by omega), Nat.add_sub_cancel_left, ← List.getD_eq_getElem?_getD]
theorem Ev.all {F : Nat → Int → Option (Sum Bool Unit)} (n : Nat) (P : Nat → Prop) [DecidablePred P] (hn : n < 4294967296)
    (yes : ∀ i, i < n → P i → ∀ r, Ev (fun k => F k ((i + 1 : Nat) : Int)) r → Ev (fun k => F k (i : Int)) r) (no : ∀ i, i < n → ¬ P i → Ev (fun k => F k (i : Int)) (Sum.inl false))
    (last : Ev (fun k => F k (n : Int)) (Sum.inr ())) : Ev (fun k => F k 0) (if ∀ i, i < n → P i then Sum.inr () else Sum.inl false) := by
  have key : ∀ d i, i + d = n → (∀ j, j < i → P j) → Ev (fun k => F k (i : Int)) (if ∀ i, i < n → P i then Sum.inr () else Sum.inl false) := by
    intro d
    induction d with
    | zero => intro i h hall; obtain rfl : i = n := by omega
              rw [if_pos hall]; exact last
    | succ d ih =>
      intro i h hall
      by_cases hp : P i
      · exact yes i (by omega) hp _ (ih (i + 1) (by omega) fun j hj => if e : j = i then e ▸ hp else hall j (by omega))
      · rw [if_neg (fun H => hp (H i (by omega)))]; exact no i (by omega) hp
  exact key n 0 (by omega) (fun j hj => absurd hj (by omega))
end Go.Gp
