
import Derived.Test.YtmgkpphbehamcaaGreatDoorPRd2
namespace Go.Proofs.YtmgkpphbehamcaaGreatDoor.Pure
open Go Go.Gg Go.Gp Gf
set_option linter.unusedVariables false
set_option linter.unusedSimpArgs false
def AND : List UInt8 := [65, 78, 68]
def OR : List UInt8 := [79, 82]
def NOT_ : List UInt8 := [78, 79, 84]
def loopP (one : PS → T26 × PS) (w : List UInt8) : Nat → List T26 → PS → List T26 × PS
 | 0, l, p => (l, ⟨p.rest, p.over, true⟩)
 | n + 1, l, p => if p.bad = false ∧ nextP p = w then loopP one w n (l ++ [(one (takeP p)).1]) (one (takeP p)).2 else (l, p)
def pickK (kind : Int) (l : List T26) : T26 := if l.length = 1 then l.getD 0 z26 else ⟨kind, 0, [], l⟩
def joinP (one : PS → T26 × PS) (w : List UInt8) (kind : Int) (n : Nat) (p : PS) : T26 × PS :=
 (pickK kind (loopP one w n [(one p).1] (one p).2).1, (loopP one w n [(one p).1] (one p).2).2)
def allP (one : PS → T26 × PS) (n : Nat) (p : PS) : T26 × PS := joinP one AND 7 n p
def anyP (one : PS → T26 × PS) (n : Nat) (p : PS) : T26 × PS := joinP (allP one n) OR 8 n p
def oneP : Nat → PS → T26 × PS
 | 0, p => failP p
 | n + 1, p =>
  if nextP p = NOT_ then (⟨9, 0, [], [(oneP n (takeP p)).1]⟩, (oneP n (takeP p)).2)
  else if nextP p = [40] then
   (if nextP (anyP (oneP n) n (takeP p)).2 = [41] then ((anyP (oneP n) n (takeP p)).1, takeP (anyP (oneP n) n (takeP p)).2) else failP (anyP (oneP n) n (takeP p)).2)
  else if (takeP p).bad = true then (⟨0, 0, [], []⟩, takeP p)
  else leafP (nextP p) (takeP p)
theorem take_suf (p : PS) : (takeP p).rest <:+ p.rest := by
 unfold takeP
 split
 ·exact List.suffix_refl _
 ·split
  ·exact List.nil_suffix
  ·split
   ·exact List.drop_suffix _ _
   ·exact List.drop_suffix _ _
theorem take_lt {p : PS} (h : nextP p ≠ []) : (takeP p).rest.length < p.rest.length := by
 have hn := nextP_le p; have hpos : 1 ≤ (nextP p).length := by
  cases hh : nextP p with
  | nil => exact absurd hh h
  | cons => simp
 unfold takeP; rw [if_neg h]
 split
 ·simp only [List.length_nil]; omega
 ·split
  ·rw [List.length_drop]; omega
  ·rw [List.length_drop]; omega
theorem words_rest (kind : Int) (ws : List ByteArray) (p : PS) : (wordsP kind ws p).2.rest = p.rest := by
 unfold wordsP
 split <;> rfl
theorem leaf_rest (it : List UInt8) (p : PS) : (leafP it p).2.rest = p.rest := by
 unfold leafP
 split
 ·rfl
 ·split
  ·rfl
  ·split
   ·rfl
   ·split
    ·split
     ·exact words_rest _ _ _
     ·rfl
    ·split
     ·exact words_rest _ _ _
     ·exact words_rest _ _ _
theorem loop_suf {one : PS → T26 × PS} (h : ∀ q, (one q).2.rest <:+ q.rest) (w : List UInt8) : ∀ (n : Nat) (l : List T26) (p : PS), (loopP one w n l p).2.rest <:+ p.rest
 | 0, l, p => List.suffix_refl _
 | n + 1, l, p => by
  rw [loopP]
  split
  ·exact ((loop_suf h w n _ _).trans (h _)).trans (take_suf p)
  ·exact List.suffix_refl _
theorem join_suf {one : PS → T26 × PS} (h : ∀ q, (one q).2.rest <:+ q.rest) (w : List UInt8) (kind : Int) (n : Nat) (p : PS) : (joinP one w kind n p).2.rest <:+ p.rest :=
 (loop_suf h w n _ _).trans (h p)
theorem any_suf {one : PS → T26 × PS} (h : ∀ q, (one q).2.rest <:+ q.rest) (n : Nat) (p : PS) : (anyP one n p).2.rest <:+ p.rest :=
 join_suf (fun q => join_suf h AND 7 n q) OR 8 n p
theorem one_suf : ∀ (n : Nat) (p : PS), (oneP n p).2.rest <:+ p.rest
 | 0, p => List.suffix_refl _
 | n + 1, p => by
  rw [oneP]
  split
  ·exact (one_suf n _).trans (take_suf p)
  ·split
   ·have ha := (any_suf (one_suf n) n (takeP p)).trans (take_suf p)
    split
    ·exact (take_suf _).trans ha
    ·exact ha
   ·split
    ·exact take_suf p
    ·rw [leaf_rest]; exact take_suf p
def HR (s : List UInt8) (one : PS → T26 × PS) (m : Nat) (R : Nat → T60 → Option (T26 × T60)) : Prop :=
 ∀ q, WF s q → q.rest.length < m → Ev (fun k => R k (st s q)) ((one q).1, st s (one q).2)
theorem HR.shift {s : List UInt8} {one : PS → T26 × PS} {m : Nat} {R : Nat → T60 → Option (T26 × T60)} (h : HR s one m R) : HR s one m (fun k => R (k + 1)) := fun q hq hl => (h q hq hl).shift
theorem eta26' (l : List T26) : (⟨(l.getD 0 z26).f0, (l.getD 0 z26).f1, (l.getD 0 z26).f2, (l.getD 0 z26).f3⟩ : T26) = l.getD 0 z26 := eta26 _
theorem loop47 {s : List UInt8} {one : PS → T26 × PS} (hs : ∀ q, (one q).2.rest <:+ q.rest) {m : Nat} (w : List UInt8) (hw : w ≠ []) : ∀ (n : Nat) (l : List T26) (p : PS) (R : Nat → T60 → Option (T26 × T60)),
  HR s one m R → WF s p → p.rest.length ≤ m → p.rest.length < n → l.length + p.rest.length ≤ 1000001 →
  Ev (fun k => ask_reader_joined_33_l0 (ba w) (R k) k l (st s p)) ((loopP one w n l p).1, st s (loopP one w n l p).2)
 | 0, l, p, R, hR, hp, hm, hn, hl => absurd hn (Nat.not_lt_zero _)
 | n + 1, l, p, R, hR, hp, hm, hn, hl => by
  rw [loopP]; refine Ev.step (fun k => by rw [ask_reader_joined_33_l0]) ?_; have htest : (if (!(st s p).f3) = true then ((ask_reader_next (st s p)).bind fun t25 => some (t25.toList == (ba w).toList)) else some false) = some (decide (p.bad = false ∧ nextP p = w)) := by
   rw [next_eq hp, Option.bind_some, ba_beq]; have hf : (st s p).f3 = p.bad := rfl; rw [hf]
   cases hb : p.bad
   ·simp
   ·rw [if_neg (by simp)]; simp
  rw [htest]; refine Ev.bind (Ev.now _) ?_; by_cases h : p.bad = false ∧ nextP p = w
  ·rw [if_pos h]; refine Ev.pos (decide_eq_true h) ?_; rw [take_eq hp]; refine Ev.bind (Ev.now _) ?_; have hlt := take_lt (p := p) (by rw [h.2]; exact hw); have hwf := take_WF hp; refine Ev.bind (hR.shift (takeP p) hwf (by omega)) ?_; have hsuf := hs (takeP p); have hle := hsuf.length_le; refine Ev.pos (by simp only [List.length_singleton]; omega) ?_; exact loop47 hs w hw n _ _ (fun k => R (k + 1)) hR.shift (hwf.suf hsuf) (by omega) (by omega) (by simp only [List.length_append, List.length_singleton]; omega)
  ·rw [if_neg h]; exact Ev.neg (by simpa using h) (Ev.now _)
theorem join47 {s : List UInt8} {one : PS → T26 × PS} (hs : ∀ q, (one q).2.rest <:+ q.rest) {m : Nat} (w : List UInt8) (hw : w ≠ []) (kind : Int) (n : Nat) (p : PS) (R : Nat → T60 → Option (T26 × T60))
  (hR : HR s one m R) (hp : WF s p) (hm : p.rest.length < m) (hn : p.rest.length < n) :
  Ev (fun k => ask_reader_joined_33 (R k) k (st s p) kind (ba w)) ((joinP one w kind n p).1, st s (joinP one w kind n p).2) := by
 unfold ask_reader_joined_33 joinP; refine Ev.bind (hR p hp hm) ?_; have hsuf := hs p; have hle := hsuf.length_le; have hb := hp.le; have hb2 := hp.2; refine Ev.bind (loop47 hs w hw n _ _ R hR (hp.suf hsuf) (by omega) (by omega) (by simp only [List.length_singleton]; omega)) ?_; unfold pickK
 dsimp only
 by_cases h : (loopP one w n [(one p).1] (one p).2).1.length = 1
 ·rw [if_pos h]; refine Ev.pos (by omega) (Ev.pos (by omega) ((Ev.now _).is ?_)); show (_, _) = (_, _); rw [Int.toNat_zero, eta26']
 ·rw [if_neg h]; exact Ev.neg (by omega) (Ev.now _)
theorem all_HR {s : List UInt8} {one : PS → T26 × PS} (hs : ∀ q, (one q).2.rest <:+ q.rest) {m : Nat} (n : Nat) (R : Nat → T60 → Option (T26 × T60)) (hR : HR s one m R) (hmn : m ≤ n) : HR s (allP one n) m (fun k => ask_reader_all (R k) k) := by
 intro q hq hl; unfold ask_reader_all allP; exact Ev.bind (join47 hs AND (by decide) 7 n q R hR hq hl (by omega)) (Ev.now _)
theorem loopO {s : List UInt8} {one in_ : PS → T26 × PS} (hs : ∀ q, (one q).2.rest <:+ q.rest) {m : Nat} (w : List UInt8) (hw : w ≠ []) : ∀ (n : Nat) (l : List T26) (p : PS) (R : Nat → T60 → Option (T26 × T60)),
  (∀ R' : Nat → T60 → Option (T26 × T60), HR s in_ m R' → HR s one m (fun k => ask_reader_all (R' k) k)) → HR s in_ m R → WF s p → p.rest.length ≤ m → p.rest.length < n → l.length + p.rest.length ≤ 1000001 →
  Ev (fun k => ask_reader_joined_l0 (ba w) (R k) k l (st s p)) ((loopP one w n l p).1, st s (loopP one w n l p).2)
 | 0, l, p, R, hA, hR, hp, hm, hn, hl => absurd hn (Nat.not_lt_zero _)
 | n + 1, l, p, R, hA, hR, hp, hm, hn, hl => by
  rw [loopP]; refine Ev.step (fun k => by rw [ask_reader_joined_l0]) ?_; have htest : (if (!(st s p).f3) = true then ((ask_reader_next (st s p)).bind fun t25 => some (t25.toList == (ba w).toList)) else some false) = some (decide (p.bad = false ∧ nextP p = w)) := by
   rw [next_eq hp, Option.bind_some, ba_beq]; have hf : (st s p).f3 = p.bad := rfl; rw [hf]
   cases hb : p.bad
   ·simp
   ·rw [if_neg (by simp)]; simp
  rw [htest]; refine Ev.bind (Ev.now _) ?_; by_cases h : p.bad = false ∧ nextP p = w
  ·rw [if_pos h]; refine Ev.pos (decide_eq_true h) ?_; rw [take_eq hp]; refine Ev.bind (Ev.now _) ?_; have hlt := take_lt (p := p) (by rw [h.2]; exact hw); have hwf := take_WF hp; refine Ev.bind (hA _ hR.shift (takeP p) hwf (by omega)) ?_; have hsuf := hs (takeP p); have hle := hsuf.length_le; refine Ev.pos (by simp only [List.length_singleton]; omega) ?_; exact loopO hs w hw n _ _ (fun k => R (k + 1)) hA hR.shift (hwf.suf hsuf) (by omega) (by omega) (by simp only [List.length_append, List.length_singleton]; omega)
  ·rw [if_neg h]; exact Ev.neg (by simpa using h) (Ev.now _)
theorem joinO {s : List UInt8} {one in_ : PS → T26 × PS} (hs : ∀ q, (one q).2.rest <:+ q.rest) {m : Nat} (w : List UInt8) (hw : w ≠ []) (kind : Int) (n : Nat) (p : PS) (R : Nat → T60 → Option (T26 × T60))
  (hA : ∀ R' : Nat → T60 → Option (T26 × T60), HR s in_ m R' → HR s one m (fun k => ask_reader_all (R' k) k)) (hR : HR s in_ m R) (hp : WF s p) (hm : p.rest.length < m) (hn : p.rest.length < n) :
  Ev (fun k => ask_reader_joined (R k) k (st s p) kind (ba w)) ((joinP one w kind n p).1, st s (joinP one w kind n p).2) := by
 unfold ask_reader_joined joinP; refine Ev.bind (hA R hR p hp hm) ?_; have hsuf := hs p; have hle := hsuf.length_le; have hb := hp.le; have hb2 := hp.2; refine Ev.bind (loopO hs w hw n _ _ R hA hR (hp.suf hsuf) (by omega) (by omega) (by simp only [List.length_singleton]; omega)) ?_; unfold pickK
 dsimp only
 by_cases h : (loopP one w n [(one p).1] (one p).2).1.length = 1
 ·rw [if_pos h]; refine Ev.pos (by omega) (Ev.pos (by omega) ((Ev.now _).is ?_)); show (_, _) = (_, _); rw [Int.toNat_zero, eta26']
 ·rw [if_neg h]; exact Ev.neg (by omega) (Ev.now _)
theorem any_eq {s : List UInt8} {one : PS → T26 × PS} (hs : ∀ q, (one q).2.rest <:+ q.rest) {m : Nat} (n : Nat) (p : PS) (R : Nat → T60 → Option (T26 × T60)) (hR : HR s one m R) (hmn : m ≤ n) (hp : WF s p) (hm : p.rest.length < m) :
  Ev (fun k => ask_reader_any (R k) k (st s p)) ((anyP one n p).1, st s (anyP one n p).2) := by
 unfold ask_reader_any anyP; exact Ev.bind (joinO (fun q => join_suf hs AND 7 n q) OR (by decide) 8 n p R (fun R' h => all_HR hs n R' h hmn) hR hp hm (by omega)) (Ev.now _)
theorem one_eq {s : List UInt8} : ∀ (n : Nat) (p : PS), WF s p → p.rest.length < n → Ev (fun k => ask_reader_one k (st s p)) ((oneP n p).1, st s (oneP n p).2)
 | 0, p, hp, hn => absurd hn (Nat.not_lt_zero _)
 | n + 1, p, hp, hn => by
  rw [oneP]; refine Ev.step (fun k => by rw [ask_reader_one]) ?_; rw [next_eq hp]; refine Ev.bind (Ev.now _) ?_; rw [take_eq hp]; refine Ev.bind (Ev.now _) ?_; have e1 : ((ba (nextP p)).toList == (⟨#[78, 79, 84]⟩ : ByteArray).toList) = decide (nextP p = NOT_) := ba_beq _ NOT_; have e2 : ((ba (nextP p)).toList == (⟨#[40]⟩ : ByteArray).toList) = decide (nextP p = [40]) := ba_beq _ [40]; rw [e1, e2]; have hwf := take_WF hp; by_cases h1 : nextP p = NOT_
  ·rw [if_pos h1]; refine Ev.pos (decide_eq_true h1) ?_; have hlt := take_lt (p := p) (by rw [h1]; decide); exact Ev.bind (one_eq n (takeP p) hwf (by omega)) (Ev.now _)
  ·rw [if_neg h1]; refine Ev.neg (by simpa using h1) ?_; by_cases h2 : nextP p = [40]
   ·rw [if_pos h2]; refine Ev.pos (decide_eq_true h2) ?_; have hlt := take_lt (p := p) (by rw [h2]; decide); refine Ev.bind (any_eq (one_suf n) (m := n) n (takeP p) (fun k => ask_reader_one k) (fun q hq hl => one_eq n q hq hl) (Nat.le_refl _) hwf (by omega)) ?_; have hwa : WF s (anyP (oneP n) n (takeP p)).2 := hwf.suf (any_suf (one_suf n) n (takeP p)); rw [next_eq hwa]; refine Ev.bind (Ev.now _) ?_; have e3 : ((ba (nextP (anyP (oneP n) n (takeP p)).2)).toList == (⟨#[41]⟩ : ByteArray).toList) = decide (nextP (anyP (oneP n) n (takeP p)).2 = [41]) := ba_beq _ [41]; rw [e3]; by_cases h3 : nextP (anyP (oneP n) n (takeP p)).2 = [41]
    ·rw [if_pos h3]; refine Ev.neg (by simp [h3]) ?_; rw [take_eq hwa]; exact Ev.bind (Ev.now _) (Ev.now _)
    ·rw [if_neg h3]; refine Ev.pos (by simp [h3]) ?_; rw [fail_eq]; exact Ev.bind (Ev.now _) (Ev.now _)
   ·rw [if_neg h2]; refine Ev.neg (by simpa using h2) ?_; by_cases h3 : (takeP p).bad = true
    ·rw [if_pos h3]; exact Ev.pos h3 (Ev.now _)
    ·rw [if_neg h3]; refine Ev.neg h3 ?_; have hle := nextP_le p; have hb := hp.le; have hb2 := hp.2; exact Ev.bind (leaf_eq (takeP p) (by omega)) (Ev.now _)
end Go.Proofs.YtmgkpphbehamcaaGreatDoor.Pure
