/- The program's items, and the document's: one by one. -/
import Derived.Test.YtmgkpphbehamcaaGreatDoorPDoc5
namespace Go.Proofs.YtmgkpphbehamcaaGreatDoor.Pure
open Go Go.Gg Go.Gp Gf
set_option linter.unusedVariables false
set_option linter.unusedSimpArgs false
def Pre (v : List UInt8) : Prop := ∀ x y, v = x ++ 32 :: y → openB x = true
theorem pre_no {a : List UInt8} (ha : (32 : UInt8) ∉ a) : Pre a := fun x y e => absurd (by rw [e]; simp) ha
theorem pre_ext {v a : List UInt8} (h : Pre v) (ho : openB v = true) (ha : (32 : UInt8) ∉ a) : Pre (v ++ 32 :: a) := by
 intro x y e; rcases List.append_eq_append_iff.1 e with ⟨b, h1, h2⟩ | ⟨b, h1, h2⟩
 ·cases b with
  | nil => rw [List.append_nil] at h1; rw [h1]; exact ho
  | cons z b =>
   rw [List.cons_append, List.cons.injEq] at h2; exact absurd (by rw [h2.2]; simp) ha
 ·cases b with
  | nil => rw [List.append_nil] at h1; rw [← h1]; exact ho
  | cons z b =>
   rw [List.cons_append, List.cons.injEq] at h2; obtain ⟨rfl, _⟩ := h2; exact h x b h1
theorem open_grp : ∀ (n : Nat) (r v : List UInt8), r.length ≤ n → openB v = true → Pre v →
  (∃ t rest, r = t ++ rest ∧ openB (v ++ 32 :: t) = false ∧ Pre (v ++ 32 :: t) ∧ (rest = [] ∧ grp (some v) (splitL 32 r) = ([v ++ 32 :: t], true) ∨
   ∃ u, rest = 32 :: u ∧ grp (some v) (splitL 32 r) = ((v ++ 32 :: t) :: (itemsR u).1, (itemsR u).2))) ∨
  (grp (some v) (splitL 32 r) = ([[34]], false) ∧ openB (v ++ 32 :: r) = true ∧ Pre (v ++ 32 :: r)) := by
 intro n
 induction n with
 | zero =>
  intro r v hr ho hp; have : r = [] := List.length_eq_zero_iff.1 (by omega); subst this; have hp2 := pre_ext hp ho (a := []) (by simp)
  cases hc : openB (v ++ 32 :: []) with
  | true => exact .inr ⟨by simp [splitL, grp, hc], rfl, hp2⟩
  | false => exact .inl ⟨[], [], rfl, hc, hp2, .inl ⟨rfl, by simp [splitL, grp, hc]⟩⟩
 | succ n ih =>
  intro r v hr ho hp; by_cases hm : (32 : UInt8) ∈ r
  ·obtain ⟨a, b, rfl, ha⟩ := List.eq_append_cons_of_mem hm; rw [split_app b ha]; have hp2 := pre_ext hp ho ha; rw [List.length_append, List.length_cons] at hr
   cases hc : openB (v ++ 32 :: a) with
   | true =>
    rw [grp, if_pos hc]; rcases ih b (v ++ 32 :: a) (by omega) hc hp2 with ⟨t, rest, h1, h2, h3, h4⟩ | ⟨h1, h2, h3⟩
    ·refine .inl ⟨a ++ 32 :: t, rest, by rw [h1]; simp, by simpa using h2, by simpa using h3, ?_⟩; have e : v ++ 32 :: (a ++ 32 :: t) = v ++ 32 :: a ++ 32 :: t := by simp
     rw [e]; exact h4
    ·refine .inr ⟨h1, by simpa using h2, by simpa using h3⟩
   | false =>
    rw [grp, if_neg (by rw [hc]; simp)]; exact .inl ⟨a, 32 :: b, rfl, hc, hp2, .inr ⟨b, rfl, rfl⟩⟩
  ·rw [split_no hm]; have hp2 := pre_ext hp ho hm
   cases hc : openB (v ++ 32 :: r) with
   | true => exact .inr ⟨by rw [grp, if_pos hc]; rfl, rfl, hp2⟩
   | false => exact .inl ⟨r, [], by simp, hc, hp2, .inl ⟨rfl, by rw [grp, if_neg (by rw [hc]; simp)]; rfl⟩⟩
theorem top_grp (r : List UInt8) :
  (∃ w rest, r = w ++ rest ∧ ((w.head? ≠ some 34 ∧ (32 : UInt8) ∉ w) ∨ (w.head? = some 34 ∧ openB w = false ∧ Pre w)) ∧
   (rest = [] ∧ itemsR r = ([w], true) ∨ ∃ u, rest = 32 :: u ∧ itemsR r = (w :: (itemsR u).1, (itemsR u).2))) ∨
  (itemsR r = ([[34]], false) ∧ r.head? = some 34 ∧ openB r = true ∧ Pre r) := by
 by_cases hm : (32 : UInt8) ∈ r
 ·obtain ⟨a, b, rfl, ha⟩ := List.eq_append_cons_of_mem hm; have hi : itemsR (a ++ 32 :: b) = grp none (a :: splitL 32 b) := by rw [itemsR, split_app b ha]
  by_cases hc : a.head? = some 34 ∧ openB a = true
  ·rw [grp, if_pos hc] at hi; have hhead : ∀ z : List UInt8, (a ++ z).head? = some 34 := fun z => by
    cases a with
    | nil => exact absurd hc.1 (by simp)
    | cons c a => exact hc.1
   rcases open_grp b.length b a (Nat.le_refl _) hc.2 (pre_no ha) with ⟨t, rest, h1, h2, h3, h4⟩ | ⟨h1, h2, h3⟩
   ·refine .inl ⟨a ++ 32 :: t, rest, by rw [h1]; simp, .inr ⟨hhead _, h2, h3⟩, ?_⟩; rw [hi]; exact h4
   ·exact .inr ⟨hi.trans h1, hhead _, h2, h3⟩
  ·have hg : grp none (a :: splitL 32 b) = (a :: (itemsR b).1, (itemsR b).2) := by rw [grp, if_neg hc]; rfl
   refine .inl ⟨a, 32 :: b, rfl, ?_, .inr ⟨b, rfl, hi.trans hg⟩⟩; by_cases hh : a.head? = some 34
   ·exact .inr ⟨hh, by simpa using fun e => hc ⟨hh, e⟩, pre_no ha⟩
   ·exact .inl ⟨hh, ha⟩
 ·have hi : itemsR r = grp none [r] := by rw [itemsR, split_no hm]
  by_cases hc : r.head? = some 34 ∧ openB r = true
  ·refine .inr ⟨?_, hc.1, hc.2, pre_no hm⟩; rw [hi, grp, if_pos hc]; rfl
  ·refine .inl ⟨r, [], by simp, ?_, .inl ⟨rfl, ?_⟩⟩
   ·by_cases hh : r.head? = some 34
    ·exact .inr ⟨hh, by simpa using fun e => hc ⟨hh, e⟩, pre_no hm⟩
    ·exact .inl ⟨hh, hm⟩
   ·rw [hi, grp, if_neg hc]; rfl
theorem items_ne (r : List UInt8) : (itemsR r).1 ≠ [] := by
 rcases top_grp r with ⟨w, rest, _, _, h | ⟨u, _, h⟩⟩ | ⟨h, _⟩
 ·rw [h.2]; simp
 ·rw [h]; simp
 ·rw [h]; simp
theorem closed_no (m : List UInt8) : openB (34 :: (m ++ [34])) = false := by
 unfold openB; have h1 : ¬ (34 :: (m ++ [34]) : List UInt8).length < 2 := by simp
 have h2 : (34 :: (m ++ [34]) : List UInt8).getLast? = some 34 := by
  rw [← List.cons_append, List.getLast?_concat]
 rw [decide_eq_false h1, decide_eq_true h2]; rfl
theorem item_closed {m z : List UInt8} (hm : (34 : UInt8) ∉ m) : itemL (34 :: (m ++ 34 :: z)) = 34 :: (m ++ [34]) := by
 unfold itemL; rw [if_pos ⟨rfl, by simp⟩, List.tail_cons]
 congr 2
 rw [List.takeWhile_append_of_pos (by
  intro a ha; simp only [bne_iff_ne]; rintro rfl; exact hm ha)]
 simp
theorem item_plain {w rest : List UInt8} (hw : (32 : UInt8) ∉ w) (hr : rest = [] ∨ ∃ u, rest = 32 :: u) (hh : w.head? ≠ some 34) : itemL (w ++ rest) = w := by
 unfold itemL; rw [if_neg]
 ·rw [List.takeWhile_append_of_pos (by
   intro a ha; simp only [bne_iff_ne]; rintro rfl; exact hw ha)]
  rcases hr with rfl | ⟨u, rfl⟩ <;> simp
 ·rintro ⟨e, _⟩
  cases w with
  | cons c w => exact hh e
  | nil =>
   rcases hr with rfl | ⟨u, rfl⟩
   ·cases e
   ·simp at e
theorem next_rest {p : PS} (ho : p.over = false) (hb : p.bad = false) : nextP p = itemL p.rest := by
 unfold nextP; rw [if_neg (by rw [ho, hb]; simp)]
theorem take_end {p : PS} {w : List UInt8} (h0 : w ≠ []) (hn : nextP p = w) (hr : p.rest = w) : takeP p = ⟨[], true, p.bad⟩ := by
 unfold takeP; rw [hn, if_neg h0, if_pos (by rw [hr])]
theorem take_on {p : PS} {w u : List UInt8} (h0 : w ≠ []) (hn : nextP p = w) (hr : p.rest = w ++ 32 :: u) : takeP p = ⟨u, p.over, p.bad⟩ := by
 unfold takeP; rw [hn, if_neg h0, if_neg (by rw [hr]; simp), if_pos (by rw [hr]; simp), hr]
 congr 1
 have e1 : w ++ 32 :: u = (w ++ [32]) ++ u := by simp
 have e2 : w.length + 1 = (w ++ [32]).length := by simp
 rw [e1, e2, List.drop_left]
theorem take_bad {p : PS} {w u : List UInt8} {c : UInt8} (h0 : w ≠ []) (hn : nextP p = w) (hr : p.rest = w ++ c :: u) (hc : c ≠ 32) : (takeP p).bad = true := by
 unfold takeP; rw [hn, if_neg h0, if_neg (by rw [hr]; simp), if_neg (by rw [hr]; simpa using hc)]
theorem take_nil {p : PS} (hn : nextP p = []) : (takeP p).bad = true := by
 unfold takeP; rw [if_pos hn]
def BadI (v : List UInt8) : Prop := v = [] ∨ v.head? = some 34
theorem leaf_nil (q : PS) : (leafP [] q).2.bad = true := by
 have : leafP [] q = wordsP 1 [ba []] q := rfl; rw [this, words_one, okW_one one_nil]; rfl
theorem leaf_inner {m : List UInt8} (hm : (34 : UInt8) ∈ m) (q : PS) : (leafP (34 :: (m ++ [34])) q).2.bad = true := by
 rw [leaf_quote]; unfold wordsP; rw [if_neg]
 ·rfl
 ·intro h; rw [okW_three, splitW_eq] at h; obtain ⟨w, hw, hmw⟩ := splitL_mem (c := 32) (b := 34) (by decide) m hm; have := List.all_eq_true.1 h (ba w) (List.mem_map_of_mem hw); exact one_no (by decide) oth34 this hmw
theorem leaf_open {t : List UInt8} (ht : (34 : UInt8) ∉ t) (q : PS) : (leafP (34 :: t) q).2.bad = true := by
 unfold leafP; rw [told_quote _ FROM (by decide) (by decide), told_quote _ SINCE (by decide) (by decide), told_quote _ UNTIL (by decide) (by decide)]
 dsimp only
 rw [if_pos (by rfl), List.tail_cons, if_neg]
 ·rfl
 ·intro e; have : [34] <:+ t := by simpa [Lib.hasSuffix] using e
  exact ht (this.subset (by simp))
def StepA (p : PS) (w : List UInt8) (L : List (List UInt8)) (ok : Bool) : Prop :=
 nextP p = w ∧ w ≠ [] ∧ (w.head? = some 34 → w.getLast? = some 34) ∧ (takeP p).bad = false ∧
  ((takeP p).over = true ∧ (takeP p).rest = [] ∧ L = [] ∧ ok = true ∨ (takeP p).over = false ∧ itemsR (takeP p).rest = (L, ok))
def StepB (p : PS) (w : List UInt8) : Prop :=
 BadI (nextP p) ∧ BadI w ∧ (∀ q, (leafP w q).2.bad = true) ∧ ((takeP p).bad = true ∨ ∀ q, (leafP (nextP p) q).2.bad = true) ∧ (w.head? = some 34 → 2 ≤ w.length → w.getLast? = some 34)
theorem item_step {p : PS} (ho : p.over = false) (hb : p.bad = false) : ∃ w L, (itemsR p.rest).1 = w :: L ∧ (StepA p w L (itemsR p.rest).2 ∨ StepB p w) := by
 have hn := next_rest ho hb; rcases top_grp p.rest with ⟨w, rest, hr, hw, hi⟩ | ⟨hi, hh, hop, hpre⟩
 ·have hrest : rest = [] ∨ ∃ u, rest = 32 :: u := hi.elim (fun h => .inl h.1) fun ⟨u, h, _⟩ => .inr ⟨u, h⟩
  have hL : ∃ L, (itemsR p.rest).1 = w :: L := by
   rcases hi with ⟨_, h⟩ | ⟨u, _, h⟩
   ·exact ⟨[], by rw [h]⟩
   ·exact ⟨_, by rw [h]⟩
  obtain ⟨L, hL⟩ := hL; have stepA : nextP p = w → w ≠ [] → (w.head? = some 34 → w.getLast? = some 34) → StepA p w L (itemsR p.rest).2 := by
   intro h1 h2 h3; refine ⟨h1, h2, h3, ?_⟩; rcases hi with ⟨h4, h5⟩ | ⟨u, h4, h5⟩
   ·rw [h4, List.append_nil] at hr; rw [take_end h2 h1 hr]; rw [h5] at hL ⊢; simp only [List.cons.injEq, true_and] at hL; exact ⟨hb, .inl ⟨rfl, rfl, hL.symm, rfl⟩⟩
   ·rw [h4] at hr; rw [take_on h2 h1 hr]; rw [h5] at hL ⊢; simp only [List.cons.injEq, true_and] at hL; exact ⟨hb, .inr ⟨ho, by rw [← hL]⟩⟩
  refine ⟨w, L, hL, ?_⟩; rcases hw with ⟨h1, h2⟩ | ⟨h1, h2, h3⟩
  ·have hnw : nextP p = w := by rw [hn, hr, item_plain h2 hrest h1]
   by_cases h0 : w = []
   ·subst h0; exact .inr ⟨.inl hnw, .inl rfl, leaf_nil, .inl (take_nil hnw), fun e => by cases e⟩
   ·exact .inl (stepA hnw h0 fun e => absurd e h1)
  ·have hlast : 2 ≤ w.length ∧ w.getLast? = some 34 := by
    unfold openB at h2; simp only [Bool.or_eq_false_iff, decide_eq_false_iff_not, Bool.not_eq_false', decide_eq_true_eq] at h2; exact ⟨by omega, h2.2⟩
   obtain ⟨m, rfl⟩ := quote_form h1 hlast.1 hlast.2; by_cases hm : (34 : UInt8) ∈ m
   ·obtain ⟨m1, m2, rfl, hm1⟩ := List.eq_append_cons_of_mem hm; have e : (34 :: ((m1 ++ 34 :: m2) ++ [34])) ++ rest = 34 :: (m1 ++ 34 :: (m2 ++ 34 :: rest)) := by simp
    have hnw : nextP p = 34 :: (m1 ++ [34]) := by rw [hn, hr, e, item_closed hm1]
    refine .inr ⟨.inr (by rw [hnw]; rfl), .inr rfl, leaf_inner (by simp), .inl ?_, fun _ _ => hlast.2⟩; obtain ⟨c, z, hz⟩ : ∃ c z, m2 ++ [34] = c :: z := by cases m2 <;> simp
    have hz2 : m2 ++ 34 :: rest = c :: (z ++ rest) := by
     have := congrArg (· ++ rest) hz; simpa using this
    refine take_bad (w := 34 :: (m1 ++ [34])) (by simp) hnw (c := c) (u := z ++ rest) (by rw [hr, e, hz2]; simp) ?_; rintro rfl; have := h3 (34 :: (m1 ++ [34])) z (by
     have : m1 ++ 34 :: m2 ++ [34] = m1 ++ 34 :: (m2 ++ [34]) := by simp
     rw [this, hz]; simp)
    rw [closed_no] at this
    cases this
   ·have e : (34 :: (m ++ [34])) ++ rest = 34 :: (m ++ 34 :: rest) := by simp
    refine .inl (stepA (by rw [hn, hr, e, item_closed hm]) (by simp) fun _ => hlast.2)
 ·refine ⟨[34], [], by rw [hi], .inr ?_⟩; have leaf34 : ∀ q, (leafP [34] q).2.bad = true := fun q => leaf_open (t := []) (by simp) q
  obtain ⟨t, ht⟩ : ∃ t, p.rest = 34 :: t := by
   cases h : p.rest with
   | nil => rw [h] at hh; cases hh
   | cons b t =>
    rw [h] at hh; simp only [List.head?_cons, Option.some.injEq] at hh; exact ⟨t, by rw [hh]⟩
  rw [ht] at hop hpre; refine ⟨.inr ?_, .inr rfl, leaf34, ?_, fun _ h => by simp at h⟩
  ·rw [hn, ht]; unfold itemL
   split
   ·rfl
   ·rfl
  ·by_cases hm : (34 : UInt8) ∈ t
   ·obtain ⟨m1, t2, rfl, hm1⟩ := List.eq_append_cons_of_mem hm; have hnw : nextP p = 34 :: (m1 ++ [34]) := by rw [hn, ht, item_closed hm1]
    cases t2 with
    | nil => rw [closed_no] at hop; cases hop
    | cons c z =>
     refine .inl (take_bad (w := 34 :: (m1 ++ [34])) (by simp) hnw (c := c) (u := z) (by rw [ht]; simp) ?_); rintro rfl; have := hpre (34 :: (m1 ++ [34])) z (by simp); rw [closed_no] at this
     cases this
   ·refine .inr fun q => ?_
    rw [hn, ht]; have : itemL (34 :: t) = 34 :: t.takeWhile (· != 32) := by
     unfold itemL; rw [if_neg (fun e => hm e.2)]; simp [List.takeWhile_cons]
    rw [this]; exact leaf_open (fun e => hm (List.takeWhile_subset _ e)) q
end Go.Proofs.YtmgkpphbehamcaaGreatDoor.Pure
