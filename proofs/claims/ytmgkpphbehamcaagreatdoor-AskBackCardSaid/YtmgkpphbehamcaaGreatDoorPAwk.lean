/- The laws' own examples: what every program answers that is one. -/
import Derived.Test.YtmgkpphbehamcaaGreatDoorF4
import Derived.Test.YtmgkpphbehamcaaGreatDoorPWr2
import Derived.Test.YtmgkpphbehamcaaGreatDoorPRd5
namespace Go.Proofs.YtmgkpphbehamcaaGreatDoor.Pure
open Go Go.Gg Go.Gp Gf
set_option linter.unusedVariables false
set_option linter.unusedSimpArgs false
theorem SameTexts_refl (l : List ByteArray) (hl : l.length < 4294967296) : Ev (fun k => grapevinelaw0_SameTexts k l l) true := by
 unfold grapevinelaw0_SameTexts; refine Ev.neg (by simp) ?_; have key : ∀ n i, i + n = l.length → Ev (fun k => grapevinelaw0_SameTexts_l0 l l k (i : Int)) (Sum.inr ()) := by
  intro n
  induction n with
  | zero =>
   intro i hi; exact Ev.step (fun k => by rw [grapevinelaw0_SameTexts_l0]) (Ev.neg (by omega) (Ev.now _))
  | succ n ih =>
   intro i hi; refine Ev.step (fun k => by rw [grapevinelaw0_SameTexts_l0]) (Ev.pos (by omega) (Ev.pos (by omega) (Ev.pos (by omega) (Ev.neg (by simp) ?_)))); rw [i64w (by omega), show ((i : Nat) : Int) + 1 = ((i + 1 : Nat) : Int) by omega]; exact ih (i + 1) (by omega)
 exact Ev.bind (key l.length 0 (by omega)) (Ev.now _)
theorem SameAsk_loop (x : T26) (hl : x.f3.length ≤ 1000) : ∀ (n i : Nat) (R : Nat → T26 → T26 → Option Bool), (∀ s ∈ x.f3, Ev (fun k => R k s s) true) → i + n = x.f3.length → Ev (fun k => grapevinelaw0_SameAsk_l0 x x (R k) k (i : Int)) (Sum.inr ())
 | 0, i, R, hR, hi => Ev.step (fun k => by rw [grapevinelaw0_SameAsk_l0]) (Ev.neg (by omega) (Ev.now _))
 | n + 1, i, R, hR, hi => by
  refine Ev.step (fun k => by rw [grapevinelaw0_SameAsk_l0]) (Ev.pos (by omega) (Ev.pos (by omega) (Ev.pos (by omega) ?_))); rw [Int.toNat_natCast]; refine Ev.bind (hR _ (getD_mem x.f3 z26 (by omega))).shift (Ev.neg (by simp) ?_); rw [i64w (by omega), show ((i : Nat) : Int) + 1 = ((i + 1 : Nat) : Int) by omega]; exact SameAsk_loop x hl n (i + 1) (fun k => R (k + 1)) (fun s hs => (hR s hs).shift) (by omega)
theorem SameAsk_refl : ∀ (d : Nat) (x : T26), SmallN d x → Ev (fun k => grapevinelaw0_SameAsk k x x) true
 | 0, x, h => h.elim
 | d + 1, x, ⟨h1, h2, h3, h4⟩ => by
  refine Ev.step (fun k => by rw [grapevinelaw0_SameAsk]) ?_; refine Ev.bind (b := false) (Ev.neg (by simp) (Ev.neg (by simp) (Ev.bind (SameTexts_refl x.f2 (by omega)) (Ev.neg (by simp) ((Ev.now _).is (by simp)))))) (Ev.neg (by simp) ?_); exact Ev.bind (SameAsk_loop x h3 x.f3.length 0 (fun k => grapevinelaw0_SameAsk k) (fun s hs => SameAsk_refl d s (h4 s hs)) (by omega)) (Ev.now _)
theorem Equal_refl (l : List ByteArray) (hl : l.length < 4294967296) : Ev (fun k => slices_Equal k l l) true := by
 unfold slices_Equal; refine Ev.neg (by simp) ?_; have key : ∀ n i, i + n = l.length → Ev (fun k => slices_Equal_l0 l l k (i : Int)) (Sum.inr ()) := by
  intro n
  induction n with
  | zero =>
   intro i hi; exact Ev.step (fun k => by rw [slices_Equal_l0]) (Ev.neg (by omega) (Ev.now _))
  | succ n ih =>
   intro i hi; refine Ev.step (fun k => by rw [slices_Equal_l0]) (Ev.pos (by omega) (Ev.pos (by omega) (Ev.pos (by omega) (Ev.neg (by simp) ?_)))); rw [i64w (by omega), show ((i : Nat) : Int) + 1 = ((i + 1 : Nat) : Int) by omega]; exact ih (i + 1) (by omega)
 exact Ev.bind (key l.length 0 (by omega)) (Ev.now _)
theorem EqualF_loop (l : List T26) (hl : l.length ≤ 1000) : ∀ (n i : Nat) (R : Nat → T26 → T26 → Option Bool), (∀ s ∈ l, Ev (fun k => R k s s) true) → i + n = l.length → Ev (fun k => slices_EqualFunc_l0 l l (R k) k (i : Int)) (Sum.inr ())
 | 0, i, R, hR, hi => Ev.step (fun k => by rw [slices_EqualFunc_l0]) (Ev.neg (by omega) (Ev.now _))
 | n + 1, i, R, hR, hi => by
  refine Ev.step (fun k => by rw [slices_EqualFunc_l0]) (Ev.pos (by omega) (Ev.pos (by omega) (Ev.pos (by omega) ?_))); rw [Int.toNat_natCast, eta26]; refine Ev.bind (hR _ (getD_mem l z26 (by omega))).shift (Ev.neg (by simp) ?_); rw [i64w (by omega), show ((i : Nat) : Int) + 1 = ((i + 1 : Nat) : Int) by omega]; exact EqualF_loop l hl n (i + 1) (fun k => R (k + 1)) (fun s hs => (hR s hs).shift) (by omega)
theorem Same_refl : ∀ (d : Nat) (x : T26), SmallN d x → Ev (fun k => ask_Same k x x) true
 | 0, x, h => h.elim
 | d + 1, x, ⟨h1, h2, h3, h4⟩ => by
  refine Ev.step (fun k => by rw [ask_Same]) ?_; refine Ev.bind (Ev.pos rfl (Ev.pos rfl (Ev.bind (Equal_refl x.f2 (by omega)) (Ev.pos rfl (Ev.bind ?_ (Ev.now _)))))) (Ev.now _); unfold slices_EqualFunc; refine Ev.neg (by simp) (Ev.bind (EqualF_loop x.f3 h3 x.f3.length 0 (fun k => ask_Same k) (fun s hs => Same_refl d s (h4 s hs)) (by omega)) (Ev.now _))
def sA : List UInt8 := [97, 32, 65, 78, 68, 32, 78, 79, 84, 32, 98, 32, 79, 82, 32, 34, 99, 32, 100, 34]
def wA : T26 := ⟨8, 0, [], [⟨7, 0, [], [⟨1, 0, [⟨#[97]⟩], []⟩, ⟨9, 0, [], [⟨1, 0, [⟨#[98]⟩], []⟩]⟩]⟩, ⟨3, 0, [⟨#[99]⟩, ⟨#[100]⟩], []⟩]⟩
def qA : T34 := ⟨8, 0, [], wA.f3, 50, 0, 0, 0, 0, ⟨#[]⟩⟩
theorem read_A : readP sA = (qA, 0) := by kernel_rfl
theorem read_nil : readP [] = (z34', 14) := by kernel_rfl
theorem small_A : SmallN 4 wA := by
 unfold wA; simp [SmallN]; decide
theorem itoa50 : Lib.itoa 50 = [53, 48] := by
 unfold Lib.itoa; rw [if_neg (by decide)]; rw [Lib.decDigits, dif_neg (by decide), Lib.decDigits, dif_pos (by decide)]; rfl
theorem awake_ev : Ev (fun k => grapevinelaw14_awake k) true := by
 unfold grapevinelaw14_awake grapevinelaw14_word; have hs := small_A; have hc : cntN 4 wA ≤ 1000 := by decide +kernel
 have ha : askOf qA = wA := rfl; refine Ev.bind ((Read_ev sA (by decide)).is read_A) ?_; refine Ev.bind (Ev.now _) ?_; refine Ev.bind (b := (wA, (⟨9, 0, [], [⟨1, 0, [⟨#[98]⟩], []⟩]⟩ : T26), qA)) (Ev.bind (Ev.now _) (Ev.now _)) ?_; have hw : writeQ 4 qA = (ba (sA ++ [32, 108, 105, 109, 105, 116, 58, 53, 48]), 0) := by
  have e : writeL 4 qA = sA ++ [32, 108, 105, 109, 105, 116, 58, 53, 48] := by
   unfold writeL; rw [show qA.f4 = 50 from rfl, itoa50]; kernel_rfl
  unfold writeQ; rw [e, if_pos (by decide +kernel)]
 refine Ev.bind ((Write_ev (d := 4) (by omega) (q := qA) (by rw [ha]; exact hs) (by rw [ha]; exact hc)).is hw) ?_; refine Ev.bind ((Read_ev [] (by decide)).is read_nil) ?_; refine Ev.bind ?_ (Ev.now _); refine Ev.pos rfl ?_; refine Ev.bind (SameAsk_refl 4 wA hs) ?_; refine Ev.pos rfl (Ev.pos rfl (Ev.pos rfl (Ev.pos ?_ (Ev.pos rfl ?_))))
 ·exact (ba_beq _ _).trans (by decide +kernel)
 refine Ev.bind ((askMay_ev (d := 4) (by omega) hs hc).is (by decide +kernel : mayB 4 wA = true)) (Ev.pos rfl ?_); refine Ev.bind ((Terms_ev 4 wA hs hc).is (by decide +kernel : termsN 4 wA = 4)) (Ev.pos rfl ?_); refine Ev.bind ((Deep_ev 4 wA (by omega) hs).is (by decide +kernel : deepN 4 wA = 4)) (Ev.pos rfl ?_); exact Ev.bind (Same_refl 4 wA hs) (Ev.now _)
end Go.Proofs.YtmgkpphbehamcaaGreatDoor.Pure
namespace Go.Proofs.YtmgkpphbehamcaaGreatDoor.Pure
open Go Go.Gg Go.Gp Gf
set_option linter.unusedVariables false
set_option linter.unusedSimpArgs false
theorem tw_app {c : UInt8} : ∀ (l m : List UInt8), c ∈ l → (l ++ m).takeWhile (· != c) = l.takeWhile (· != c)
 | [], m, h => by cases h
 | b :: t, m, h => by
  by_cases hb : b = c
  ·subst hb; simp
  ·have ht : c ∈ t := by
    rcases List.mem_cons.1 h with h | h
    ·exact absurd h.symm hb
    ·exact h
   simp [List.takeWhile_cons, hb, tw_app t m ht]
theorem tw_blank : ∀ (l m : List UInt8), (l ++ 32 :: m).takeWhile (· != 32) = l.takeWhile (· != 32)
 | [], m => by simp
 | b :: t, m => by
  by_cases hb : b = 32
  ·subst hb; simp
  ·simp [List.takeWhile_cons, hb, tw_blank t m]
theorem item_app {l post : List UInt8} (h : ¬ (l.head? = some 34 ∧ 34 ∉ l.tail)) : itemL (l ++ 32 :: post) = itemL l := by
 unfold itemL
 cases l with
 | nil => simp
 | cons b t =>
  by_cases hb : b = 34
  ·subst hb; have ht : 34 ∈ t := by simpa using h
   rw [if_pos (by simp [ht]), if_pos (by simp [ht])]; simp only [List.cons_append, List.tail_cons]; rw [tw_app t _ ht]
  ·rw [if_neg (by simp [hb]), if_neg (by simp [hb])]; exact tw_blank _ _
theorem bad_take {p : PS} (h : p.bad = true) : (takeP p).bad = true := by
 unfold takeP; have : nextP p = [] := by unfold nextP; rw [if_pos (.inr h)]
 rw [if_pos this]
theorem over_take {p : PS} (h : p.over = true) : (takeP p).bad = true := by
 unfold takeP; have : nextP p = [] := by unfold nextP; rw [if_pos (.inl h)]
 rw [if_pos this]
theorem one_bad : ∀ (n : Nat) {p : PS}, p.bad = true → (oneP n p).2.bad = true
 | 0, p, h => rfl
 | n + 1, p, h => by
  have hn : nextP p = [] := by unfold nextP; rw [if_pos (.inr h)]
  rw [oneP, hn, if_neg (by decide), if_neg (by decide), if_pos (bad_take h)]; exact bad_take h
theorem words_same (k : Int) (ws : List ByteArray) (p q : PS) (h : (wordsP k ws p).2.bad = false) : (wordsP k ws q).1 = (wordsP k ws p).1 ∧ (wordsP k ws p).2 = p ∧ (wordsP k ws q).2 = q := by
 unfold wordsP at h ⊢
 split
 ·exact ⟨rfl, rfl, rfl⟩
 ·rename_i c
  rw [if_neg c] at h; cases h
theorem leaf_same (it : List UInt8) (p q : PS) (h : (leafP it p).2.bad = false) : (leafP it q).1 = (leafP it p).1 ∧ (leafP it p).2 = p ∧ (leafP it q).2 = q := by
 unfold leafP at h ⊢
 split
 ·exact ⟨rfl, rfl, rfl⟩
 ·rename_i e1
  rw [e1] at h
  split
  ·exact ⟨rfl, rfl, rfl⟩
  ·rename_i e2
   rw [e2] at h
   split
   ·exact ⟨rfl, rfl, rfl⟩
   ·rename_i e3
    rw [e3] at h
    dsimp only at h
    by_cases h0 : it.head? = some 34
    ·rw [if_pos h0] at h ⊢; rw [if_pos h0]; by_cases h1 : Lib.hasSuffix it.tail [34] = true
     ·rw [if_pos h1] at h ⊢; rw [if_pos h1]; exact words_same _ _ _ _ h
     ·rw [if_neg h1] at h; cases h
    ·rw [if_neg h0] at h ⊢; rw [if_neg h0]; by_cases h1 : Lib.hasSuffix it [42] = true
     ·rw [if_pos h1] at h ⊢; rw [if_pos h1]; exact words_same _ _ _ _ h
     ·rw [if_neg h1] at h ⊢; rw [if_neg h1]; exact words_same _ _ _ _ h
theorem told_head {it w : List UInt8} {c d : UInt8} {u v : List UInt8} (hi : it = c :: u) (hw : w = d :: v) (h : c ≠ d) : toldL it w = none := by
 unfold toldL; have hb : (d == c) = false := beq_eq_false_iff_ne.2 fun e => h e.symm
 rw [if_neg]; subst hi; subst hw; simp only [Lib.hasPrefix, List.isPrefixOf, hb, Bool.false_and]; decide
end Go.Proofs.YtmgkpphbehamcaaGreatDoor.Pure
