/- Plain laws on sorting: what is sorted and keeps equals in their order is one list; swaps and parts of lists. Nothing of any one program is said here. -/
import Derived.Test.YtbphlohiealbeaaGreatDoorGgP
namespace Go.Gp
open Go Go.Gg
set_option linter.unusedSimpArgs false

section
variable {α : Type}
/-- A strict weak order. -/
structure SWO (lt : α → α → Bool) : Prop where
  irr : ∀ a, lt a a = false
  tr : ∀ a b c, lt a b = true → lt b c = true → lt a c = true
  neg : ∀ a b c, lt a b = true → lt a c = true ∨ lt c b = true
variable {lt : α → α → Bool}
def eqv (lt : α → α → Bool) (a b : α) : Bool := !lt a b && !lt b a
def Srt (lt : α → α → Bool) (xs : List α) : Prop := xs.Pairwise fun a b => lt b a = false
def SE (lt : α → α → Bool) (xs ys : List α) : Prop := ∀ x, xs.filter (eqv lt x) = ys.filter (eqv lt x)

theorem SWO.asym (h : SWO lt) {a b : α} (e : lt a b = true) : lt b a = false := by
  cases e2 : lt b a
  · rfl
  · have := h.tr a b a e e2; rw [h.irr] at this; cases this
theorem SWO.ntr (h : SWO lt) {a b c : α} (e : lt b a = false) (e2 : lt c b = false) : lt c a = false := by
  cases e3 : lt c a
  · rfl
  · rcases h.neg c a b e3 with h1 | h1
    · rw [e2] at h1; cases h1
    · rw [e] at h1; cases h1
theorem eqv_iff {a b : α} : eqv lt a b = true ↔ lt a b = false ∧ lt b a = false := by simp [eqv]
theorem SWO.eqv_refl (h : SWO lt) (a : α) : eqv lt a a = true := by simp [eqv, h.irr]

theorem SE.refl (xs : List α) : SE lt xs xs := fun _ => rfl
theorem SE.symm {xs ys : List α} (h : SE lt xs ys) : SE lt ys xs := fun x => (h x).symm
theorem SE.trans {xs ys zs : List α} (h : SE lt xs ys) (h' : SE lt ys zs) : SE lt xs zs := fun x => (h x).trans (h' x)
theorem SE.append {xs xs' ys ys' : List α} (h : SE lt xs xs') (h' : SE lt ys ys') : SE lt (xs ++ ys) (xs' ++ ys') := fun x => by simp [List.filter_append, h x, h' x]
theorem SE.mem (hw : SWO lt) {xs ys : List α} (h : SE lt xs ys) {x : α} (hx : x ∈ xs) : x ∈ ys := by
  have : x ∈ xs.filter (eqv lt x) := List.mem_filter.2 ⟨hx, hw.eqv_refl x⟩
  rw [h x] at this
  exact (List.mem_filter.1 this).1
theorem filter_none {p : α → Bool} {xs : List α} (h : ∀ x ∈ xs, p x = false) : xs.filter p = [] := by
  rw [List.filter_eq_nil_iff]; intro x hx; rw [h x hx]; simp
/-- Blocks that have no equals in common may be exchanged. -/
theorem SE.swap (hw : SWO lt) {us vs : List α} (h : ∀ x ∈ us, ∀ y ∈ vs, lt y x = true) : SE lt (us ++ vs) (vs ++ us) := by
  intro x
  simp only [List.filter_append]
  by_cases e : ∃ y ∈ us, eqv lt x y = true
  · obtain ⟨y, hy, hxy⟩ := e
    have h0 : vs.filter (eqv lt x) = [] := filter_none fun z hz => by
      cases hc : eqv lt x z
      · rfl
      · have h1 := eqv_iff.1 hxy; have h2 := eqv_iff.1 hc
        have h3 := h y hy z hz
        rcases hw.neg z y x h3 with h4 | h4
        · rw [h2.2] at h4; cases h4
        · rw [h1.1] at h4; cases h4
    rw [h0, List.append_nil, List.nil_append]
  · have h0 : us.filter (eqv lt x) = [] := filter_none fun z hz => by
      cases hc : eqv lt x z
      · rfl
      · exact absurd ⟨z, hz, hc⟩ e
    rw [h0, List.append_nil, List.nil_append]
theorem SE.len (hw : SWO lt) : ∀ {xs ys : List α}, SE lt xs ys → ∀ p : α → Bool, (∀ a b, p a = true → p b = true → eqv lt a b = true) → (xs.filter p).length = (ys.filter p).length := by
  intro xs ys h p hp
  by_cases e : ∃ x, x ∈ xs ∧ p x = true
  · obtain ⟨x, _, hx⟩ := e
    have key : ∀ l : List α, l.filter p = (l.filter (eqv lt x)).filter p := fun l => by
      rw [List.filter_filter]
      congr 1
      funext z
      cases hz : p z
      · simp
      · simp [hp x z hx hz]
    rw [key xs, key ys, h x]
  · by_cases e' : ∃ x, x ∈ ys ∧ p x = true
    · obtain ⟨x, hm, hx⟩ := e'
      exact absurd ⟨x, SE.mem hw h.symm hm, hx⟩ e
    · rw [filter_none, filter_none]
      · intro x hx; cases hc : p x
        · rfl
        · exact absurd ⟨x, hx, hc⟩ e'
      · intro x hx; cases hc : p x
        · rfl
        · exact absurd ⟨x, hx, hc⟩ e

/-- Sorted, and equals in their order: there is one such list. -/
theorem Srt.uniq (hw : SWO lt) : ∀ {ys zs : List α}, Srt lt ys → Srt lt zs → SE lt ys zs → ys = zs := by
  intro ys
  induction ys with
  | nil =>
    intro zs _ _ h
    cases zs with
    | nil => rfl
    | cons z zs => have := SE.mem hw h.symm (x := z) (by simp); cases this
  | cons y ys ih =>
    intro zs hy hz h
    cases zs with
    | nil => have := SE.mem hw h (x := y) (by simp); cases this
    | cons z zs =>
      have hyz := List.pairwise_cons.1 hy
      have hzz := List.pairwise_cons.1 hz
      have h1 : lt y z = false := by
        have := SE.mem hw h (x := y) (by simp)
        rcases List.mem_cons.1 this with e | e
        · rw [e]; exact hw.irr z
        · exact hzz.1 y e
      have h2 : lt z y = false := by
        have := SE.mem hw h.symm (x := z) (by simp)
        rcases List.mem_cons.1 this with e | e
        · rw [e]; exact hw.irr y
        · exact hyz.1 z e
      have h3 : eqv lt y z = true := eqv_iff.2 ⟨h1, h2⟩
      have h4 := h y
      rw [List.filter_cons_of_pos (hw.eqv_refl y), List.filter_cons_of_pos h3] at h4
      obtain ⟨rfl, h4⟩ := List.cons.inj h4
      congr 1
      refine ih hyz.2 hzz.2 fun x => ?_
      have h5 := h x
      cases e : eqv lt x y
      · rw [List.filter_cons_of_neg (by simp [e]), List.filter_cons_of_neg (by simp [e])] at h5; exact h5
      · rw [List.filter_cons_of_pos e, List.filter_cons_of_pos e] at h5; exact (List.cons.inj h5).2
theorem Srt.append {us vs : List α} (hu : Srt lt us) (hv : Srt lt vs) (h : ∀ x ∈ us, ∀ y ∈ vs, lt y x = false) : Srt lt (us ++ vs) := List.pairwise_append.2 ⟨hu, hv, h⟩

theorem Srt.sub {l l' : List α} (h : Srt lt l) (hs : l'.Sublist l) : Srt lt l' := List.Pairwise.sublist hs h

/-! ### Two places of a list exchanged -/
def swp (z : α) (l : List α) (i j : Nat) : List α := (l.set i (l.getD j z)).set j (l.getD i z)
theorem swp_mid (z : α) (p w q : List α) (x y : α) : swp z (p ++ x :: (w ++ y :: q)) p.length (p.length + 1 + w.length) = p ++ y :: (w ++ x :: q) := by
  have e1 : (p ++ x :: (w ++ y :: q)).getD p.length z = x := by simp [List.getD_eq_getElem?_getD]
  have e2 : (p ++ x :: (w ++ y :: q)).getD (p.length + 1 + w.length) z = y := by
    simp only [List.getD_eq_getElem?_getD]
    rw [List.getElem?_append_right (by omega), show p.length + 1 + w.length - p.length = w.length + 1 by omega, List.getElem?_cons_succ, List.getElem?_append_right (by omega)]
    simp
  unfold swp
  rw [e1, e2, List.set_append_right _ _ (by omega), Nat.sub_self, List.set_cons_zero, List.set_append_right _ _ (by omega),
    show p.length + 1 + w.length - p.length = w.length + 1 by omega, List.set_cons_succ, List.set_append_right _ _ (by omega), Nat.sub_self, List.set_cons_zero]
theorem swp_mid' (z : α) (p w q : List α) (x y : α) : swp z (p ++ x :: (w ++ y :: q)) (p.length + 1 + w.length) p.length = p ++ y :: (w ++ x :: q) := by
  have e1 : (p ++ x :: (w ++ y :: q)).getD p.length z = x := by simp [List.getD_eq_getElem?_getD]
  have e2 : (p ++ x :: (w ++ y :: q)).getD (p.length + 1 + w.length) z = y := by
    simp only [List.getD_eq_getElem?_getD]
    rw [List.getElem?_append_right (by omega), show p.length + 1 + w.length - p.length = w.length + 1 by omega, List.getElem?_cons_succ, List.getElem?_append_right (by omega)]
    simp
  unfold swp
  rw [e1, e2, List.set_append_right _ _ (by omega), show p.length + 1 + w.length - p.length = w.length + 1 by omega, List.set_cons_succ, List.set_append_right _ _ (by omega), Nat.sub_self, List.set_cons_zero,
    List.set_append_right _ _ (by omega), Nat.sub_self, List.set_cons_zero]
theorem swp_length (z : α) (l : List α) (i j : Nat) : (swp z l i j).length = l.length := by simp [swp]
theorem getD_apr (z : α) (p q : List α) (i : Nat) : (p ++ q).getD (p.length + i) z = q.getD i z := by
  simp only [List.getD_eq_getElem?_getD]; rw [List.getElem?_append_right (by omega)]; congr 2; omega
theorem getD_apl (z : α) (p q : List α) {i : Nat} (h : i < p.length) : (p ++ q).getD i z = p.getD i z := by
  simp only [List.getD_eq_getElem?_getD]; rw [List.getElem?_append_left h]
end
end Go.Gp
