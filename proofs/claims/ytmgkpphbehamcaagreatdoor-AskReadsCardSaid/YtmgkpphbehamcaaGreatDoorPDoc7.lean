/- The document's reader goes along with the program's. -/
import Derived.Test.YtmgkpphbehamcaaGreatDoorPDoc6
namespace Go.Proofs.YtmgkpphbehamcaaGreatDoor.Pure
open Go Go.Gg Go.Gp Gf
set_option linter.unusedVariables false
set_option linter.unusedSimpArgs false
structure DS where
 at_ : Nat
 bad : Bool
def dst (l : List (List UInt8)) (q : DS) : T69 := ⟨l.map ba, ((q.at_ : Nat) : Int), q.bad⟩
def peekR (l : List (List UInt8)) (q : DS) : List UInt8 := l.getD q.at_ []
theorem dst_bad (l : List (List UInt8)) (q : DS) : (dst l q).f2 = q.bad := rfl
theorem peek_eq (l : List (List UInt8)) (q : DS) : grapevineref14_Reader_peek (dst l q) = some (ba (peekR l q)) := by
 unfold grapevineref14_Reader_peek dst peekR
 dsimp only
 rw [List.length_map]; by_cases h : q.at_ < l.length
 ·rw [if_neg (by omega), if_pos (by omega), Int.toNat_natCast, getD_map]
 ·rw [if_pos (by omega)]; simp [List.getD_eq_getElem?_getD, List.getElem?_eq_none (Nat.le_of_not_lt h)]; rfl
theorem dst_next (l : List (List UInt8)) {q : DS} (h : q.at_ ≤ 1000000) (b : Bool) : (⟨(dst l q).f0, IntKind.i64.wrap ((dst l q).f1 + 1), b⟩ : T69) = dst l ⟨q.at_ + 1, b⟩ := by
 unfold dst; have e1 : IntKind.i64.wrap (((q.at_ : Nat) : Int) + 1) = ((q.at_ + 1 : Nat) : Int) := by rw [i64w (by omega)]; omega
 rw [e1]
def Rel (l : List (List UInt8)) (ok : Bool) (p : PS) (q : DS) : Prop :=
 p.bad = false ∧ q.bad = false ∧ (p.over = true ∧ p.rest = [] ∧ q.at_ = l.length ∧ ok = true ∨ p.over = false ∧ q.at_ < l.length ∧ itemsR p.rest = (l.drop q.at_, ok))
theorem Rel.le {l : List (List UInt8)} {ok : Bool} {p : PS} {q : DS} (h : Rel l ok p q) : q.at_ ≤ l.length := by
 rcases h.2.2 with ⟨_, _, h, _⟩ | ⟨_, h, _⟩ <;> omega
theorem rel_step {l : List (List UInt8)} {ok : Bool} {p : PS} {q : DS} (h : Rel l ok p q) :
  (nextP p = peekR l q ∧ nextP p ≠ [] ∧ ((peekR l q).head? = some 34 → (peekR l q).getLast? = some 34) ∧ Rel l ok (takeP p) ⟨q.at_ + 1, false⟩) ∨ StepB p (peekR l q) := by
 obtain ⟨hb, hqb, ⟨ho, hr, ha, hk⟩ | ⟨ho, ha, hi⟩⟩ := h
 ·refine .inr ?_; have hn : nextP p = [] := by unfold nextP; rw [if_pos (.inl ho)]
  have hw : peekR l q = [] := by
   unfold peekR; simp [List.getD_eq_getElem?_getD, List.getElem?_eq_none (Nat.le_of_eq ha.symm)]
  rw [hw]; exact ⟨.inl hn, .inl rfl, leaf_nil, .inl (take_nil hn), fun e => by cases e⟩
 ·obtain ⟨w, L, h1, h2⟩ := item_step ho hb; have hd : l.drop q.at_ = l.getD q.at_ [] :: l.drop (q.at_ + 1) := drop_getD l [] ha; rw [hi] at h1 h2; rw [hd] at h1; simp only [List.cons.injEq] at h1; have hw : peekR l q = w := h1.1; rw [hw]; rcases h2 with ⟨a, b, c, d, e⟩ | h2
  ·refine .inl ⟨a, by rw [a]; exact b, c, d, rfl, ?_⟩; rcases e with ⟨e1, e2, e3, e4⟩ | ⟨e1, e2⟩
   ·refine .inl ⟨e1, e2, ?_, e4⟩; have : l.drop (q.at_ + 1) = [] := h1.2.trans e3; have := List.drop_eq_nil_iff.1 this; show q.at_ + 1 = l.length; omega
   ·refine .inr ⟨e1, ?_, ?_⟩
    ·have hne := items_ne (takeP p).rest; rw [e2] at hne; have : l.drop (q.at_ + 1) ≠ [] := by rw [h1.2]; exact hne
     show q.at_ + 1 < l.length; apply Classical.byContradiction; intro hc; exact this (List.drop_eq_nil_of_le (by omega))
    ·rw [e2]; show _ = (l.drop (q.at_ + 1), ok); rw [h1.2]
  ·exact .inr h2
def Out (l : List (List UInt8)) (ok : Bool) (N : Nat) (a : T26 × PS) (b : T26 × DS) : Prop :=
 (a.2.bad = true ∧ b.2.bad = true ∧ b.2.at_ ≤ l.length + 1 + N) ∨ (b.1 = a.1 ∧ Rel l ok a.2 b.2)
def OutL (l : List (List UInt8)) (ok : Bool) (N : Nat) (a : List T26 × PS) (b : List T26 × DS) : Prop :=
 (a.2.bad = true ∧ b.2.bad = true ∧ b.2.at_ ≤ l.length + 1 + N) ∨ (b.1 = a.1 ∧ Rel l ok a.2 b.2)
def HS (l : List (List UInt8)) (ok : Bool) (one : PS → T26 × PS) (m : Nat) (R : Nat → T69 → Option (T26 × T69)) : Prop :=
 ∀ p q, Rel l ok p q → p.rest.length < m → ∃ x q', Ev (fun k => R k (dst l q)) (x, dst l q') ∧ Out l ok p.rest.length (one p) (x, q')
theorem Ev.shiftN {α : Type} {f : Nat → Option α} {r : α} (h : Ev f r) (e : Nat) : Ev (fun k => f (k + e)) r := let ⟨K, hK⟩ := h; ⟨K, fun k hk => hK (k + e) (by omega)⟩
theorem HS.shiftN {l : List (List UInt8)} {ok : Bool} {one : PS → T26 × PS} {m : Nat} {R : Nat → T69 → Option (T26 × T69)} (h : HS l ok one m R) (e : Nat) : HS l ok one m (fun k => R (k + e)) := fun p q hr hl => by
 obtain ⟨x, q', h1, h2⟩ := h p q hr hl; exact ⟨x, q', Ev.shiftN h1 e, h2⟩
theorem notBad {w v : List UInt8} (hw : ¬ BadI w) (hv : BadI v) : v ≠ w := fun e => hw (e ▸ hv)
theorem loopS {l : List (List UInt8)} {ok : Bool} (hll : l.length ≤ 1000) {one : PS → T26 × PS} (hs : ∀ q, (one q).2.rest <:+ q.rest) {m : Nat} (w : List UInt8) (hw : ¬ BadI w) (y : T26)
  (S : Nat → Nat → T69 → Option (T26 × T69)) (G : Nat → Nat → List T26 → T26 → T69 → Option (List T26 × T26 × T69))
  (hG : ∀ K k acc y d, G K (k + 1) acc y d = ((S K k d).bind fun t13 => (if acc.length + ([t13.1] : List T26).length ≤ 1073741824 then (((grapevineref14_Reader_peek t13.2).bind fun t29 => (if (!(t29.toList == (ba w).toList)) = true then some true else some t13.2.f2)).bind fun s27 => (if s27 = true then some ((acc ++ ([t13.1] : List T26)), y, t13.2) else G K k (acc ++ ([t13.1] : List T26)) y (⟨t13.2.f0, IntKind.i64.wrap (t13.2.f1 + 1), t13.2.f2⟩ : T69))) else none)))
  (hS : ∀ e, HS l ok one m (fun k => S (k + e) k)) (N : Nat) (hN : N ≤ 1000) : ∀ (n : Nat) (acc : List T26) (p : PS) (q : DS) (e : Nat),
  Rel l ok p q → p.rest.length < m → p.rest.length < n → acc.length + p.rest.length ≤ 100000 → p.rest.length ≤ N →
  ∃ xs q', Ev (fun k => G (k + e) k acc y (dst l q)) (xs, y, dst l q') ∧ OutL l ok N (loopP one w n (acc ++ [(one p).1]) (one p).2) (xs, q')
 | 0, acc, p, q, e, hr, hm, hn, ha, hpN => absurd hn (Nat.not_lt_zero _)
 | n + 1, acc, p, q, e, hr, hm, hn, ha, hpN => by
  obtain ⟨x, q1, hx, ho⟩ := hS (e + 1) p q hr hm; have hsuf := (hs p).length_le; have step : ∀ r, Ev (fun k => (((grapevineref14_Reader_peek (dst l q1)).bind fun t29 => (if (!(t29.toList == (ba w).toList)) = true then some true else some (dst l q1).f2)).bind fun s27 => (if s27 = true then some ((acc ++ ([x] : List T26)), y, dst l q1) else G (k + (e + 1)) k (acc ++ ([x] : List T26)) y (⟨(dst l q1).f0, IntKind.i64.wrap ((dst l q1).f1 + 1), (dst l q1).f2⟩ : T69)))) r → Ev (fun k => G (k + e) k acc y (dst l q)) r := fun r h => by
   refine Ev.step (fun k => by rw [show k + 1 + e = k + (e + 1) by omega, hG]) (Ev.bind hx ?_); refine Ev.pos (by simp only [List.length_singleton]; omega) h
  rcases ho with ⟨h1, h2, h3⟩ | ⟨h1, h2⟩
  ·refine ⟨acc ++ [x], q1, step _ ?_, .inl ?_⟩
   ·refine Ev.bind (b := true) ?_ (Ev.pos rfl (Ev.now _)); rw [peek_eq, dst_bad, h2]; exact Ev.bind (Ev.now _) (Ev.ite (fun _ => Ev.now _) fun _ => Ev.now _)
   ·rw [loopP, if_neg (by rw [h1]; simp)]; exact ⟨h1, h2, by show q1.at_ ≤ _; have : q1.at_ ≤ l.length + 1 + p.rest.length := h3; omega⟩
  ·have h1 : x = (one p).1 := h1; have h2 : Rel l ok (one p).2 q1 := h2; have hqb := h2.2.1; have htest : ((grapevineref14_Reader_peek (dst l q1)).bind fun t29 => (if (!(t29.toList == (ba w).toList)) = true then some true else some (dst l q1).f2)) = some (!(decide (peekR l q1 = w))) := by
    rw [peek_eq, Option.bind_some, ba_beq, dst_bad, hqb]; by_cases hc : peekR l q1 = w
    ·rw [decide_eq_true hc]; rfl
    ·rw [decide_eq_false hc]; rfl
   by_cases hc : peekR l q1 = w
   ·rcases rel_step h2 with ⟨a, b, c, d⟩ | hB
    ·have hlt := take_lt (p := (one p).2) b; obtain ⟨xs, q', h4, h5⟩ := loopS hll hs w hw y S G hG hS N hN n (acc ++ [x]) (takeP (one p).2) ⟨q1.at_ + 1, false⟩ (e + 1) d (by omega) (by omega) (by rw [List.length_append, List.length_singleton]; omega) (by omega); refine ⟨xs, q', step _ ?_, ?_⟩
     ·rw [htest, decide_eq_true hc]; refine Ev.bind (Ev.now _) (Ev.neg (by simp) ?_); have hle := h2.le; rw [dst_next l (by omega), dst_bad, hqb]; exact h4
     ·rw [loopP, if_pos ⟨h2.1, by rw [a, hc]⟩]; rw [h1] at h5; exact h5
    ·exact absurd (hc ▸ hB.2.1) hw
   ·refine ⟨acc ++ [x], q1, step _ ?_, .inr ?_⟩
    ·rw [htest, decide_eq_false hc]; exact Ev.bind (Ev.now _) (Ev.pos rfl (Ev.now _))
    ·have hnw : nextP (one p).2 ≠ w := by
      rcases rel_step h2 with ⟨a, b, c, d⟩ | hB
      ·rw [a]; exact hc
      ·exact notBad hw hB.1
     rw [loopP, if_neg (fun e => hnw e.2), h1]; exact ⟨rfl, h2⟩
theorem pick_ev {l : List (List UInt8)} {ok : Bool} {N : Nat} (kind : Int) (y : T26) {xs : List T26} {q' : DS} {a : List T26 × PS} (h : OutL l ok N a (xs, q')) :
  ∃ x, (if ((xs, y, dst l q').1.length : Int) = 1 then (if 0 ≤ (0 : Int) ∧ (0 : Int) < ((xs, y, dst l q').1.length : Int) then some ((⟨((xs, y, dst l q').1.getD (0 : Int).toNat z26).f0, ((xs, y, dst l q').1.getD (0 : Int).toNat z26).f1, ((xs, y, dst l q').1.getD (0 : Int).toNat z26).f2, ((xs, y, dst l q').1.getD (0 : Int).toNat z26).f3⟩ : T26), (xs, y, dst l q').2.2) else none) else some ((⟨kind, 0, ([] : List ByteArray), (xs, y, dst l q').1⟩ : T26), (xs, y, dst l q').2.2)) = some (x, dst l q') ∧ Out l ok N (pickK kind a.1, a.2) (x, q') := by
 refine ⟨pickK kind xs, ?_, ?_⟩
 ·unfold pickK
  dsimp only
  by_cases h1 : xs.length = 1
  ·rw [if_pos (by omega), if_pos (by omega), if_pos h1, Int.toNat_zero, eta26']
  ·rw [if_neg (by omega), if_neg h1]
 ·rcases h with h | ⟨h1, h2⟩
  ·exact .inl h
  ·have h1 : xs = a.1 := h1; rw [h1]; exact .inr ⟨rfl, h2⟩
theorem and_sim {l : List (List UInt8)} {ok : Bool} (hll : l.length ≤ 1000) {one : PS → T26 × PS} (hs : ∀ q, (one q).2.rest <:+ q.rest) {m : Nat} (n : Nat) (R : Nat → T69 → Option (T26 × T69)) (hR : HS l ok one m R) (hmn : m ≤ n) (hm : m ≤ 1000) (e : Nat) :
  HS l ok (allP one n) m (fun k d => grapevineref14_Reader_several (R (k + e)) k d (⟨#[65, 78, 68]⟩ : ByteArray)) := by
 intro p q hr hl; obtain ⟨xs, q', h1, h2⟩ := loopS hll hs AND (by unfold BadI AND; simp) (⟨0, 0, [], []⟩ : T26) (fun K _ d => R K d) (fun K k acc y d => grapevineref14_Reader_several_l0 (ba AND) (R K) k acc y d) (fun K k acc y d => by rw [grapevineref14_Reader_several_l0]) (fun e => hR.shiftN e) p.rest.length (by omega) n [] p q e hr hl (by omega) (by simp; omega) (Nat.le_refl _); obtain ⟨x, h3, h4⟩ := pick_ev 7 (⟨0, 0, [], []⟩ : T26) h2; refine ⟨x, q', ?_, h4⟩; show Ev (fun k => grapevineref14_Reader_several (R (k + e)) k (dst l q) (⟨#[65, 78, 68]⟩ : ByteArray)) _; unfold grapevineref14_Reader_several; refine Ev.bind h1 ?_; rw [h3]; exact Ev.now _
theorem any_sim {l : List (List UInt8)} {ok : Bool} (hll : l.length ≤ 1000) {one : PS → T26 × PS} (hs : ∀ q, (one q).2.rest <:+ q.rest) {m : Nat} (n : Nat) (R : Nat → T69 → Option (T26 × T69)) (hR : HS l ok one m R) (hmn : m ≤ n) (hm : m ≤ 1000) :
  HS l ok (anyP one n) m (fun k d => grapevineref14_Reader_any_77 (R k) k d) := by
 intro p q hr hl; obtain ⟨xs, q', h1, h2⟩ := loopS hll (one := allP one n) (fun q => join_suf hs AND 7 n q) OR (by unfold BadI OR; simp) (⟨0, 0, [], []⟩ : T26) (fun K k d => grapevineref14_Reader_several (R K) k d (⟨#[65, 78, 68]⟩ : ByteArray)) (fun K k acc y d => grapevineref14_Reader_several_78_l0 (ba OR) (R K) k acc y d) (fun K k acc y d => by rw [grapevineref14_Reader_several_78_l0]) (fun e => and_sim hll hs n R hR hmn hm e) p.rest.length (by omega) n [] p q 0 hr hl (by omega) (by simp; omega) (Nat.le_refl _); obtain ⟨x, h3, h4⟩ := pick_ev 8 (⟨0, 0, [], []⟩ : T26) h2; refine ⟨x, q', ?_, h4⟩; show Ev (fun k => grapevineref14_Reader_any_77 (R k) k (dst l q)) _; unfold grapevineref14_Reader_any_77 grapevineref14_Reader_several_78; refine Ev.bind (b := (x, dst l q')) (Ev.bind h1 ?_) (Ev.now _); rw [h3]; exact Ev.now _
theorem one_sim {l : List (List UInt8)} {ok : Bool} (hll : l.length ≤ 1000) (hlw : ∀ w ∈ l, w.length ≤ 100000) : ∀ (n : Nat), n ≤ 1000 → HS l ok (oneP n) n (fun k => grapevineref14_Reader_one k)
 | 0, _ => fun p q hr hl => absurd hl (Nat.not_lt_zero _)
 | n + 1, hn => by
  intro p q hr hl; have ihs := one_sim hll hlw (ok := ok) n (by omega); have hle := hr.le; have hqb := hr.2.1; have hwl : (peekR l q).length ≤ 100000 := by
   unfold peekR; by_cases h : q.at_ < l.length
   ·exact hlw _ (getD_mem l [] h)
   ·simp [List.getD_eq_getElem?_getD, List.getElem?_eq_none (Nat.le_of_not_lt h)]
  have e1 : ((ba (peekR l q)).toList == (⟨#[78, 79, 84]⟩ : ByteArray).toList) = decide (peekR l q = NOT_) := ba_beq _ NOT_; have e2 : ((ba (peekR l q)).toList == (⟨#[40]⟩ : ByteArray).toList) = decide (peekR l q = [40]) := ba_beq _ [40]; have base : ∀ r, Ev (fun k => (if decide (peekR l q = NOT_) = true then (((grapevineref14_Reader_one k) (dst l ⟨q.at_ + 1, false⟩)).bind fun t7 => some ((⟨9, 0, ([] : List ByteArray), ([t7.1] : List T26)⟩ : T26), t7.2)) else (if decide (peekR l q = [40]) = true then ((grapevineref14_Reader_any_77 (grapevineref14_Reader_one k) k (dst l ⟨q.at_ + 1, false⟩)).bind fun t23 => ((if t23.2.f2 = true then some (⟨t23.2.f0, t23.2.f1, true⟩ : T69) else ((grapevineref14_Reader_peek t23.2).bind fun t33 => some (⟨t23.2.f0, t23.2.f1, (!(t33.toList == (⟨#[41]⟩ : ByteArray).toList))⟩ : T69))).bind fun s30 => some (t23.1, (⟨s30.f0, IntKind.i64.wrap (s30.f1 + 1), s30.f2⟩ : T69)))) else ((grapevineref14_leaf k (ba (peekR l q))).bind fun t37 => ((if false = true then some (dst l ⟨q.at_ + 1, true⟩) else some (dst l ⟨q.at_ + 1, (!t37.2)⟩)).bind fun s42 => some (t37.1, s42)))))) r → Ev (fun k => grapevineref14_Reader_one k (dst l q)) r := fun r h => by
   refine Ev.step (fun k => by rw [grapevineref14_Reader_one, peek_eq, Option.bind_some, e1, e2]) ?_; simp only [dst_next l (show q.at_ ≤ 1000000 by omega), dst_bad, hqb]; exact h
  rw [oneP]; rcases rel_step hr with ⟨hn1, hn2, hn3, hR2⟩ | ⟨b1, b2, b3, b4, b5⟩
  ·have hlt := take_lt (p := p) hn2; rw [hn1]; by_cases c1 : peekR l q = NOT_
   ·rw [if_pos c1]; obtain ⟨x, q', h1, h2⟩ := ihs (takeP p) _ hR2 (by omega); refine ⟨⟨9, 0, [], [x]⟩, q', base _ (Ev.pos (decide_eq_true c1) (Ev.bind h1 (Ev.now _))), ?_⟩; rcases h2 with ⟨a, b, c⟩ | ⟨a, b⟩
    ·exact .inl ⟨a, b, by show q'.at_ ≤ _; have : q'.at_ ≤ l.length + 1 + (takeP p).rest.length := c; omega⟩
    ·have a : x = (oneP n (takeP p)).1 := a; rw [a]; exact .inr ⟨rfl, b⟩
   rw [if_neg c1]; by_cases c2 : peekR l q = [40]
   ·rw [if_pos c2]; obtain ⟨x, q', h1, h2⟩ := any_sim hll (one_suf n) n _ ihs (Nat.le_refl _) (by omega) (takeP p) _ hR2 (by omega); rcases h2 with ⟨a, b, c⟩ | ⟨a, b⟩
    ·have b : q'.bad = true := b; have c : q'.at_ ≤ l.length + 1 + (takeP p).rest.length := c; refine ⟨x, ⟨q'.at_ + 1, true⟩, base _ (Ev.neg (by simpa using c1) (Ev.pos (decide_eq_true c2) (Ev.bind h1 ?_))), .inl ?_⟩
     ·refine Ev.bind (b := (⟨(dst l q').f0, (dst l q').f1, true⟩ : T69)) (Ev.pos b (Ev.now _)) ?_; rw [← dst_next l (show q'.at_ ≤ 1000000 by omega) true]; exact Ev.now _
     ·have hnp : nextP (anyP (oneP n) n (takeP p)).2 = [] := by unfold nextP; rw [if_pos (.inr a)]
      rw [hnp, if_neg (by decide)]; exact ⟨rfl, rfl, by show q'.at_ + 1 ≤ _; omega⟩
    ·have a : x = (anyP (oneP n) n (takeP p)).1 := a; have b : Rel l ok (anyP (oneP n) n (takeP p)).2 q' := b; have hqb' := b.2.1; have hle' := b.le; have e3 : ((ba (peekR l q')).toList == (⟨#[41]⟩ : ByteArray).toList) = decide (peekR l q' = [41]) := ba_beq _ [41]; refine ⟨x, ⟨q'.at_ + 1, !(decide (peekR l q' = [41]))⟩, base _ (Ev.neg (by simpa using c1) (Ev.pos (decide_eq_true c2) (Ev.bind h1 ?_))), ?_⟩
     ·dsimp only
      rw [dst_bad, hqb', peek_eq]; refine Ev.bind (b := (⟨(dst l q').f0, (dst l q').f1, !(decide (peekR l q' = [41]))⟩ : T69)) (Ev.neg (by simp) (Ev.bind (Ev.now _) ?_)) ?_
      ·rw [e3]; exact Ev.now _
      ·rw [← dst_next l (show q'.at_ ≤ 1000000 by omega)]; exact Ev.now _
     ·rcases rel_step b with ⟨f1, f2, f3, f4⟩ | ⟨g1, g2, _⟩
      ·rw [f1]; by_cases c3 : peekR l q' = [41]
       ·rw [if_pos c3, decide_eq_true c3, a]; exact .inr ⟨rfl, f4⟩
       ·rw [if_neg c3, decide_eq_false c3]; exact .inl ⟨rfl, rfl, by show q'.at_ + 1 ≤ _; omega⟩
      ·have w41 : ¬ BadI [41] := by unfold BadI; simp
       rw [if_neg (notBad w41 g1), decide_eq_false (notBad w41 g2)]; exact .inl ⟨rfl, rfl, by show q'.at_ + 1 ≤ _; omega⟩
   rw [if_neg c2, if_neg (by rw [hR2.1]; simp)]; obtain ⟨r, hr1, hr2, hr3⟩ := rleaf_ev hwl (fun h _ => hn3 h); refine ⟨r.1, ⟨q.at_ + 1, !r.2⟩, base _ (Ev.neg (by simpa using c1) (Ev.neg (by simpa using c2) (Ev.bind hr1 (Ev.bind (Ev.neg (by simp) (Ev.now _)) (Ev.now _))))), ?_⟩
   cases hr4 : r.2 with
   | true =>
    rw [hr2 hr4]; exact .inr ⟨rfl, hR2⟩
   | false => exact .inl ⟨hr3 hr4 _, rfl, by show q.at_ + 1 ≤ _; omega⟩
  ·have wN : ¬ BadI NOT_ := by unfold BadI NOT_; simp
   have w40 : ¬ BadI [40] := by unfold BadI; simp
   obtain ⟨r, hr1, hr2, hr3⟩ := rleaf_ev hwl b5; have hr4 : r.2 = false := by
    cases h : r.2 with
    | false => rfl
    | true =>
     have h1 := b3 ⟨[], false, false⟩; rw [hr2 h] at h1
     cases h1
   rw [if_neg (notBad wN b1), if_neg (notBad w40 b1)]; refine ⟨r.1, ⟨q.at_ + 1, !r.2⟩, base _ (Ev.neg (by simpa using notBad wN b2) (Ev.neg (by simpa using notBad w40 b2) (Ev.bind hr1 (Ev.bind (Ev.neg (by simp) (Ev.now _)) (Ev.now _))))), .inl ⟨?_, by rw [hr4]; rfl, by show q.at_ + 1 ≤ _; omega⟩⟩; by_cases hb : (takeP p).bad = true
   ·rw [if_pos hb]; exact hb
   ·rw [if_neg hb]; exact (b4.resolve_left hb) _
end Go.Proofs.YtmgkpphbehamcaaGreatDoor.Pure
