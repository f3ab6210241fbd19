/- What is written is read as it was: questions, and queries. -/
import Derived.Test.YtmgkpphbehamcaaGreatDoorPBack1
namespace Go.Proofs.YtmgkpphbehamcaaGreatDoor.Pure
open Go Go.Gg Go.Gp Gf
set_option linter.unusedVariables false
set_option linter.unusedSimpArgs false
abbrev at_ (r : List UInt8) : PS := ⟨r, false, false⟩
def RO (t : List UInt8) (x : T26) : Prop := ∀ n, t.length + 1 ≤ n → ∀ r, oneP n (at_ (t ++ 32 :: r)) = (x, at_ r)
def AL (t : List UInt8) (x : T26) : Prop := ∀ n, t.length + 1 ≤ n → ∀ r, nextP (at_ r) ≠ AND → allP (oneP n) n (at_ (t ++ 32 :: r)) = (x, at_ r)
def AN (t : List UInt8) (x : T26) : Prop := ∀ n, t.length + 1 ≤ n → ∀ r, nextP (at_ r) ≠ AND → nextP (at_ r) ≠ OR → anyP (oneP n) n (at_ (t ++ 32 :: r)) = (x, at_ r)
theorem RO.al {t : List UInt8} {x : T26} (h : RO t x) : AL t x := fun n hn r hr => by
 unfold allP joinP; rw [h n hn r]
 dsimp only
 rw [loop_end _ AND (by decide) n (by omega) _ hr]; rfl
theorem AL.an {t : List UInt8} {x : T26} (h : AL t x) : AN t x := fun n hn r hr hr2 => by
 unfold anyP joinP; rw [h n hn r hr]
 dsimp only
 rw [loop_end _ OR (by decide) n (by omega) _ hr2]; rfl
theorem it40 : Item [40] := item_no (by decide) (by decide) (by decide)
theorem it41 : Item [41] := item_no (by decide) (by decide) (by decide)
theorem itAND : Item AND := item_no (by decide) (by decide) (by decide)
theorem itOR : Item OR := item_no (by decide) (by decide) (by decide)
theorem itNOT : Item NOT_ := item_no (by decide) (by decide) (by decide)
theorem AN.brk {t : List UInt8} {x : T26} (h : AN t x) : RO ([40, 32] ++ t ++ [32, 41]) x := fun n hn r => by
 obtain ⟨m, rfl⟩ : ∃ m, n = m + 1 := ⟨n - 1, by omega⟩; have e : ([40, 32] ++ t ++ [32, 41]) ++ 32 :: r = [40] ++ 32 :: (t ++ 32 :: ([41] ++ 32 :: r)) := by simp
 simp only [List.length_append, List.length_cons, List.length_nil] at hn; rw [e, oneP, (it40 _).1, (it40 _).2, if_neg (by decide), if_pos rfl]; rw [h m (by omega) ([41] ++ 32 :: r) (by rw [(it41 r).1]; decide) (by rw [(it41 r).1]; decide)]; rw [(it41 r).1, if_pos rfl, (it41 r).2]
theorem RO.not {t : List UInt8} {x : T26} (h : RO t x) : RO ([78, 79, 84, 32] ++ t) ⟨9, 0, [], [x]⟩ := fun n hn r => by
 obtain ⟨m, rfl⟩ : ∃ m, n = m + 1 := ⟨n - 1, by omega⟩; have e : ([78, 79, 84, 32] ++ t) ++ 32 :: r = NOT_ ++ 32 :: (t ++ 32 :: r) := by simp [NOT_]
 simp only [List.length_append, List.length_cons, List.length_nil] at hn; rw [e, oneP, (itNOT _).1, (itNOT _).2, if_pos rfl, h m (by omega) r]
theorem RO.leaf {t : List UInt8} {x : T26} (hi : Item t) (hN : t ≠ NOT_) (hP : t ≠ [40]) (hx : ∀ p, leafP t p = (x, p)) : RO t x := fun n hn r => by
 obtain ⟨m, rfl⟩ : ∃ m, n = m + 1 := ⟨n - 1, by omega⟩; rw [oneP, (hi r).1, (hi r).2, if_neg hN, if_neg hP, if_neg (by simp), hx]
def remP (w : List UInt8) (r : List UInt8) : List (List UInt8 × T26) → List UInt8
 | [] => r
 | p :: ps => w ++ 32 :: (p.1 ++ 32 :: remP w r ps)
theorem loop_rem {w : List UInt8} (hi : Item w) (one : PS → T26 × PS) (r : List UInt8) (hr : nextP (at_ r) ≠ w) : ∀ (ps : List (List UInt8 × T26)) (n : Nat) (l : List T26), ps.length + 1 ≤ n →
  (∀ p ∈ ps, ∀ r', (r' = r ∨ nextP (at_ r') = w) → one (at_ (p.1 ++ 32 :: r')) = (p.2, at_ r')) → loopP one w n l (at_ (remP w r ps)) = (l ++ ps.map (·.2), at_ r)
 | [], n, l, hn, h => by
  obtain ⟨m, rfl⟩ : ∃ m, n = m + 1 := ⟨n - 1, by simp at hn; omega⟩; rw [loopP, if_neg (fun e => hr e.2)]; simp [remP]
 | p :: ps, n, l, hn, h => by
  obtain ⟨m, rfl⟩ : ∃ m, n = m + 1 := ⟨n - 1, by simp at hn; omega⟩; have hnext : remP w r ps = r ∨ nextP (at_ (remP w r ps)) = w := by
   cases ps with
   | nil => exact .inl rfl
   | cons q qs => exact .inr (hi _).1
  rw [loopP]; show (if false = false ∧ nextP (at_ (w ++ 32 :: (p.1 ++ 32 :: remP w r ps))) = w then _ else _) = _; rw [(hi _).1, if_pos ⟨rfl, rfl⟩]; show loopP one w m (l ++ [(one (takeP (at_ (w ++ 32 :: (p.1 ++ 32 :: remP w r ps))))).1]) (one (takeP (at_ (w ++ 32 :: (p.1 ++ 32 :: remP w r ps))))).2 = _; rw [(hi _).2, h p (by simp) _ hnext]
  dsimp only
  rw [loop_rem hi one r hr ps m _ (by simp only [List.length_cons] at hn; omega) (fun q hq => h q (by simp [hq]))]; simp
theorem join_rem (w r : List UInt8) : ∀ ps : List (List UInt8 × T26), Lib.joinTail (32 :: (w ++ [32])) (ps.map (·.1)) ++ 32 :: r = 32 :: remP w r ps
 | [] => by simp [Lib.joinTail, remP]
 | p :: ps => by
  have h := join_rem w r ps; have e : Lib.joinTail (32 :: (w ++ [32])) ((p :: ps).map (·.1)) = (32 :: (w ++ [32])) ++ p.1 ++ Lib.joinTail (32 :: (w ++ [32])) (ps.map (·.1)) := by simp [Lib.joinTail]
  rw [e, List.append_assoc, h, remP]; simp
theorem join_text (w r : List UInt8) (p : List UInt8 × T26) (ps : List (List UInt8 × T26)) : Lib.join ((p :: ps).map (·.1)) (32 :: (w ++ [32])) ++ 32 :: r = p.1 ++ 32 :: remP w r ps := by
 rw [List.map_cons, Lib.join_cons, List.append_assoc, join_rem]
theorem join_len_ge (sep : List UInt8) : ∀ ls : List (List UInt8), ∀ l ∈ ls, l.length ≤ (Lib.join ls sep).length
 | [], l, h => by cases h
 | [x], l, h => by simp at h; rw [h, Lib.join_one]; exact Nat.le_refl _
 | x :: y :: t, l, h => by
  rw [join_two]; simp only [List.length_append]; rcases List.mem_cons.1 h with rfl | h
  ·omega
  ·have := join_len_ge sep (y :: t) l h; omega
theorem join_len_count (sep : List UInt8) (hs : 1 ≤ sep.length) : ∀ ls : List (List UInt8), ls.length ≤ (Lib.join ls sep).length + 1
 | [] => by simp
 | [x] => by simp
 | x :: y :: t => by
  rw [join_two]; have := join_len_count sep hs (y :: t); simp only [List.length_append, List.length_cons] at this ⊢; omega
theorem join_al {ps : List (List UInt8 × T26)} (h2 : 2 ≤ ps.length) (h : ∀ p ∈ ps, RO p.1 p.2) : AL (Lib.join (ps.map (·.1)) [32, 65, 78, 68, 32]) ⟨7, 0, [], ps.map (·.2)⟩ := fun n hn r hr => by
 obtain ⟨p, qs, rfl⟩ : ∃ p qs, ps = p :: qs := by cases ps with | nil => simp at h2 | cons p qs => exact ⟨p, qs, rfl⟩
 have hge := join_len_ge [32, 65, 78, 68, 32] ((p :: qs).map (·.1)); have hc := join_len_count [32, 65, 78, 68, 32] (by simp) ((p :: qs).map (·.1)); rw [List.length_map, List.length_cons] at hc; have e := join_text AND r p qs; have esep : (32 :: (AND ++ [32])) = [32, 65, 78, 68, 32] := rfl; rw [esep] at e; rw [e]; unfold allP joinP; rw [h p (by simp) n (by have := hge p.1 (by simp); omega)]
 dsimp only
 rw [loop_rem itAND (oneP n) r hr qs n [p.2] (by omega) (fun q hq r' _ => h q (by simp [hq]) n (by have := hge q.1 (by simp; exact .inr ⟨q.2, hq⟩); omega) r')]; unfold pickK; rw [if_neg (by simp only [List.length_append, List.length_map, List.length_singleton, List.length_cons] at h2 ⊢; omega)]; rfl
theorem join_an {ps : List (List UInt8 × T26)} (h2 : 2 ≤ ps.length) (h : ∀ p ∈ ps, AL p.1 p.2) : AN (Lib.join (ps.map (·.1)) [32, 79, 82, 32]) ⟨8, 0, [], ps.map (·.2)⟩ := fun n hn r hr hr2 => by
 obtain ⟨p, qs, rfl⟩ : ∃ p qs, ps = p :: qs := by cases ps with | nil => simp at h2 | cons p qs => exact ⟨p, qs, rfl⟩
 have hge := join_len_ge [32, 79, 82, 32] ((p :: qs).map (·.1)); have hc := join_len_count [32, 79, 82, 32] (by simp) ((p :: qs).map (·.1)); rw [List.length_map, List.length_cons] at hc; have e := join_text OR r p qs; have esep : (32 :: (OR ++ [32])) = [32, 79, 82, 32] := rfl; rw [esep] at e; rw [e]; obtain ⟨q1, qs', hq⟩ : ∃ q1 qs', qs = q1 :: qs' := by cases qs with | nil => simp at h2 | cons p qs => exact ⟨p, qs, rfl⟩
 have hfirst : nextP (at_ (remP OR r qs)) ≠ AND := by rw [hq, remP, (itOR _).1]; decide
 unfold anyP joinP; rw [h p (by simp) n (by have := hge p.1 (by simp); omega) _ hfirst]
 dsimp only
 rw [loop_rem itOR (allP (oneP n) n) r hr2 qs n [p.2] (by omega) (fun q hq r' hr' => h q (by simp [hq]) n (by have := hge q.1 (by simp; exact .inr ⟨q.2, hq⟩); omega) r' (by
  rcases hr' with rfl | hr'
  ·exact hr
  ·rw [hr']; decide))]
 unfold pickK; rw [if_neg (by simp only [List.length_append, List.length_map, List.length_singleton, List.length_cons] at h2 ⊢; omega)]; rfl
def Back (t : List UInt8) (x : T26) : Prop := (x.f0 ≠ 7 → x.f0 ≠ 8 → RO t x) ∧ (x.f0 ≠ 8 → AL t x) ∧ AN t x
theorem Back.of {t : List UInt8} {x : T26} (h : RO t x) : Back t x := ⟨fun _ _ => h, fun _ => h.al, h.al.an⟩
theorem Back.one {t : List UInt8} {x : T26} (h : Back t x) {k : Int} (hk : k ≠ 8) : RO (withP k x t) x := by
 unfold withP; by_cases c : x.f0 = 8 ∨ x.f0 = 7 ∧ k ≠ 8
 ·rw [if_pos c]; exact h.2.2.brk
 ·rw [if_neg c]; exact h.1 (fun e => c (.inr ⟨e, hk⟩)) (fun e => c (.inl e))
theorem Back.all {t : List UInt8} {x : T26} (h : Back t x) : AL (withP 8 x t) x := by
 unfold withP; by_cases c : x.f0 = 8 ∨ x.f0 = 7 ∧ (8 : Int) ≠ 8
 ·rw [if_pos c]; exact h.2.2.brk.al
 ·rw [if_neg c]; exact h.2.1 fun e => c (.inl e)
theorem list_one {α : Type} {l : List α} (h : l.length = 1) (d : α) : l = [l.getD 0 d] := by
 obtain ⟨a, rfl⟩ := List.length_eq_one_iff.1 h; rfl
theorem back : ∀ (d : Nat) (x : T26), goodN d x = true → Back (wrN d x) x
 | 0, x, h => by cases h
 | d + 1, x, hg => by
  have hsh := good_shape hg; have hsub := good_sub hg; have hws : ∀ w ∈ x.f2, wordOK w = true := by
   simp only [goodN, Bool.and_eq_true, List.all_eq_true] at hg; exact hg.2.1
  have hf1 := shape_f1 hsh; have ih : ∀ s ∈ x.f3, Back (wrN d s) s := fun s hs => back d s (hsub s hs)
  unfold shapeB at hsh; have hc := of_decide_eq_true hsh; rw [wrN]; obtain ⟨f0, f1, f2, f3⟩ := x
  dsimp only at hc hws ih hf1 ⊢
  unfold wr1
  dsimp only
  have nil : ∀ {α : Type} {l : List α}, l.length = 0 → l = [] := fun h => List.eq_nil_of_length_eq_zero h
  by_cases c1 : f0 = 1
  ·rw [if_pos c1]; subst c1; have h2 := list_one (l := f2) (by omega) (⟨#[]⟩ : ByteArray); have h3 := nil (l := f3) (by omega); have h1 : f1 = 0 := by omega
   generalize f2.getD 0 (⟨#[]⟩ : ByteArray) = w at h2 ⊢; subst h2; subst h3; subst h1; have hw := hws w (by simp); refine Back.of (RO.leaf (item_no (word_ne hw) (head_no (word_no hw (by decide) o34)) (word_no hw (by decide) o32)) (fun e => ?_) (fun e => ?_) (fun p => lf_word hw p))
   ·have hn := (wordOK_parts hw).2.2; have e' : w = ba NOT_ := by rw [← e]; rfl
    rw [e'] at hn; exact sign_tab.2.2 hn
   ·exact word_no hw (b := 40) (by decide) o40 (by rw [e]; simp)
  rw [if_neg c1]; by_cases c2 : f0 = 2
  ·rw [if_pos c2]; subst c2; have h2 := list_one (l := f2) (by omega) (⟨#[]⟩ : ByteArray); have h3 := nil (l := f3) (by omega); have h1 : f1 = 0 := by omega
   generalize f2.getD 0 (⟨#[]⟩ : ByteArray) = w at h2 ⊢; subst h2; subst h3; subst h1; have hw := hws w (by simp); have n34 : 34 ∉ w.data.toList ++ [42] := by have := word_no hw (b := 34) (by decide) o34; simpa using this
   have n32 : 32 ∉ w.data.toList ++ [42] := by have := word_no hw (b := 32) (by decide) o32; simpa using this
   refine Back.of (RO.leaf (item_no (by simp) (head_no n34) n32) (fun e => ?_) (fun e => ?_) (fun p => lf_prefix hw p))
   ·have : (42 : UInt8) ∈ NOT_ := by rw [← e]; simp
    exact absurd this (by decide)
   ·have : (42 : UInt8) ∈ [40] := by rw [← e]; simp
    exact absurd this (by decide)
  rw [if_neg c2]; by_cases c3 : f0 = 3
  ·rw [if_pos c3]; subst c3; have h3 := nil (l := f3) (by omega); have h1 : f1 = 0 := by omega
   have h2 : f2 ≠ [] := fun e => by rw [e] at hc; simp at hc
   subst h3; subst h1; have n34 : (34 : UInt8) ∉ Lib.join (f2.map (·.data.toList)) [32] := join_no (by decide) fun w hw => by
    obtain ⟨v, hv, rfl⟩ := List.mem_map.1 hw; exact word_no (hws v hv) (by decide) o34
   have e : [34] ++ Lib.join (f2.map (·.data.toList)) [32] ++ [34] = 34 :: (Lib.join (f2.map (·.data.toList)) [32] ++ [34]) := rfl; rw [e]; exact Back.of (RO.leaf (item_phrase n34) (fun e => by cases e) (fun e => by cases e) (fun p => lf_phrase h2 hws p))
  rw [if_neg c3]; by_cases c4 : f0 = 4
  ·rw [if_pos c4]; subst c4; have h3 := nil (l := f3) (by omega); have h2 := nil (l := f2) (by omega); subst h3; subst h2; have nn : ∀ {c : UInt8}, digs.contains c = false → c ∉ FROM → c ∉ FROM ++ Lib.itoa f1 := fun h1 h2 h => (List.mem_append.1 h).elim h2 (itoa_no hf1.1 h1)
   exact Back.of (RO.leaf (item_no (by simp [FROM]) (head_no (nn (by decide) (by decide))) (nn (by decide) (by decide))) (fun e => by cases e) (fun e => by cases e) (fun p => lf_from hf1.1 (by omega) p))
  rw [if_neg c4]; by_cases c5 : f0 = 5
  ·rw [if_pos c5]; subst c5; have h3 := nil (l := f3) (by omega); have h2 := nil (l := f2) (by omega); subst h3; subst h2; have nn : ∀ {c : UInt8}, digs.contains c = false → c ∉ SINCE → c ∉ SINCE ++ Lib.itoa f1 := fun h1 h2 h => (List.mem_append.1 h).elim h2 (itoa_no hf1.1 h1)
   exact Back.of (RO.leaf (item_no (by simp [SINCE]) (head_no (nn (by decide) (by decide))) (nn (by decide) (by decide))) (fun e => by cases e) (fun e => by cases e) (fun p => lf_since hf1.1 (by omega) p))
  rw [if_neg c5]; by_cases c6 : f0 = 6
  ·rw [if_pos c6]; subst c6; have h3 := nil (l := f3) (by omega); have h2 := nil (l := f2) (by omega); subst h3; subst h2; have nn : ∀ {c : UInt8}, digs.contains c = false → c ∉ UNTIL → c ∉ UNTIL ++ Lib.itoa f1 := fun h1 h2 h => (List.mem_append.1 h).elim h2 (itoa_no hf1.1 h1)
   exact Back.of (RO.leaf (item_no (by simp [UNTIL]) (head_no (nn (by decide) (by decide))) (nn (by decide) (by decide))) (fun e => by cases e) (fun e => by cases e) (fun p => lf_until hf1.1 (by omega) p))
  rw [if_neg c6]; have h2 := nil (l := f2) (by omega); have h1 : f1 = 0 := by omega
  subst h2; subst h1; by_cases c9 : f0 = 9
  ·rw [if_pos c9]; subst c9; have h3 := list_one (l := f3) (by omega) z26; generalize f3.getD 0 z26 = s at h3; subst h3; exact Back.of ((ih s (by simp)).one (by decide)).not
  rw [if_neg c9]; by_cases c7 : f0 = 7
  ·rw [if_pos c7]; subst c7; have e1 : (f3.map fun s => (withP 7 s (wrN d s), s)).map (·.1) = f3.map fun s => withP 7 s (wrN d s) := by rw [List.map_map]; rfl
   have e2 : (f3.map fun s => (withP 7 s (wrN d s), s)).map (·.2) = f3 := by rw [List.map_map]; exact List.map_id' f3
   have := join_al (ps := f3.map fun s => (withP 7 s (wrN d s), s)) (by rw [List.length_map]; omega) (fun p hp => by
    obtain ⟨s, hs, rfl⟩ := List.mem_map.1 hp; exact (ih s hs).one (by decide))
   rw [e1, e2] at this; exact ⟨fun h => absurd rfl h, fun _ => this, this.an⟩
  ·rw [if_neg c7]; obtain rfl : f0 = 8 := by omega
   have e1 : (f3.map fun s => (withP 8 s (wrN d s), s)).map (·.1) = f3.map fun s => withP 8 s (wrN d s) := by rw [List.map_map]; rfl
   have e2 : (f3.map fun s => (withP 8 s (wrN d s), s)).map (·.2) = f3 := by rw [List.map_map]; exact List.map_id' f3
   have := join_an (ps := f3.map fun s => (withP 8 s (wrN d s), s)) (by rw [List.length_map]; omega) (fun p hp => by
    obtain ⟨s, hs, rfl⟩ := List.mem_map.1 hp; exact (ih s hs).all)
   rw [e1, e2] at this; exact ⟨fun _ h => absurd rfl h, fun h => absurd rfl h, this⟩
end Go.Proofs.YtmgkpphbehamcaaGreatDoor.Pure
