/- The document's answer to a question: the same as the program's. -/
import Derived.Test.YtbphlohiealbeaaGreatDoorF8
import Derived.Test.YtbphlohiealbeaaGreatDoorPAskR
namespace Go.Proofs.YtbphlohiealbeaaGreatDoor.Pure
open Go Go.Gg Go.Gp Gf
set_option linter.unusedVariables false
set_option linter.unusedSimpArgs false
section
variable (ws : List T85) (ps : List ByteArray) (hw : ws.length < 4294967296) (hp : ps.length < 4294967296)
include hw hp
theorem rPhrase_l1 (i : Nat) (hi : i < ws.length) : ∀ (n j : Nat) (b : Bool), j + n = ps.length → Ev (fun k => grapevineref15_Phrase_l1 ws ps (i : Int) k b (j : Int)) (b && mFrom ws ps i n j)
 | 0, j, b, hn => by
  refine Ev.step (fun k => by rw [grapevineref15_Phrase_l1]) ?_; refine Ev.bind (b := false) (Ev.neg (by omega) (Ev.now _)) ?_; exact Ev.neg Bool.false_ne_true ((Ev.now _).is (by simp [mFrom]))
 | n + 1, j, b, hn => by
  refine Ev.step (fun k => by rw [grapevineref15_Phrase_l1]) ?_; refine Ev.bind (Ev.pos (by omega) (Ev.now _)) ?_
  cases b
  ·exact Ev.neg Bool.false_ne_true ((Ev.now _).is (by simp))
  ·refine Ev.pos rfl ?_; refine Ev.bind (b := M ws ps i j) ?_ ?_
   ·rw [i64w (by omega), show ((i : Int) + (j : Int)).toNat = i + j by omega, show ((i : Nat) : Int).toNat = i by omega, show ((j : Nat) : Int).toNat = j by omega]; unfold M; by_cases h : i + j < ws.length
    ·rw [decide_eq_true h, Bool.true_and]; refine Ev.pos (by omega) (Ev.pos (by omega) (Ev.pos (by omega) ?_)); rw [toList_beq]; by_cases e : (ws.getD (i + j) z85).f0 = ps.getD j ⟨#[]⟩
     ·refine Ev.pos (decide_eq_true e) (Ev.pos (by omega) (Ev.pos (by omega) ((Ev.now _).is ?_))); rw [Bool.eq_iff_iff, beq_iff_eq, decide_eq_true_eq]; constructor
      ·intro h'
       cases hz : ws.getD (i + j) z85
       rw [hz] at e h'; simp only at e h'; rw [e, h']
      ·intro h'; rw [h']
     ·refine Ev.neg (by simpa using e) ((Ev.now _).is ?_); rw [eq_comm, decide_eq_false_iff_not]; intro h'; exact e (by rw [h'])
    ·rw [decide_eq_false h, Bool.false_and]; exact Ev.neg (by omega) (Ev.now _)
   ·rw [i64w (by omega), show ((j : Nat) : Int) + 1 = ((j + 1 : Nat) : Int) by omega]; have := rPhrase_l1 i hi n (j + 1) (M ws ps i j) (by omega); simpa [mFrom] using this
theorem rPhrase_l0 : ∀ (n i : Nat), i + n = ws.length → Ev (fun k => grapevineref15_Phrase_l0 ws ps k (i : Int)) (if (decide (0 < ps.length) && anyFrom ws ps n i) then Sum.inl true else Sum.inr ())
 | 0, i, hn => by
  refine Ev.step (fun k => by rw [grapevineref15_Phrase_l0]) ?_; refine Ev.bind (b := false) (Ev.neg (by omega) (Ev.now _)) ?_; exact Ev.neg Bool.false_ne_true ((Ev.now _).is (by simp [anyFrom]))
 | n + 1, i, hn => by
  refine Ev.step (fun k => by rw [grapevineref15_Phrase_l0]) ?_; by_cases h : 0 < ps.length
  ·refine Ev.bind (b := true) (Ev.pos (by omega) ((Ev.now _).is (decide_eq_true (by omega)))) (Ev.pos rfl ?_); refine Ev.bind (rPhrase_l1 ws ps hw hp i (by omega) ps.length 0 true (by omega)) ?_; rw [Bool.true_and, decide_eq_true h, Bool.true_and]; simp only [anyFrom]; by_cases hm : mFrom ws ps i ps.length 0 = true
   ·exact Ev.pos hm ((Ev.now _).is (by simp [hm]))
   ·refine Ev.neg hm ?_; rw [i64w (by omega), show ((i : Nat) : Int) + 1 = ((i + 1 : Nat) : Int) by omega]; have := rPhrase_l0 n (i + 1) (by omega); rw [decide_eq_true h, Bool.true_and] at this; exact this.is (by simp [hm])
  ·refine Ev.bind (b := false) (Ev.pos (by omega) ((Ev.now _).is (decide_eq_false (by omega)))) (Ev.neg Bool.false_ne_true ((Ev.now _).is ?_)); rw [decide_eq_false h]; simp
theorem rPhrase_ev : Ev (fun k => grapevineref15_Phrase k ws ps) (phraseD ws ps) := by
 unfold grapevineref15_Phrase phraseD; refine Ev.bind (rPhrase_l0 ws ps hw hp ws.length 0 (by omega)) ?_
 cases (decide (0 < ps.length) && anyFrom ws ps ws.length 0)
 ·exact Ev.now _
 ·exact Ev.now _
end
section
variable (ws : List T85) (hw : ws.length < 4294967296) (x : T25) (hx : 0 < x.f2.length)
include hw hx
theorem rPref_loop : ∀ (n i : Nat), i + n = ws.length → Ev (fun k => grapevineref15_holds_l0 x ws k (i : Int)) (if (ws.drop i).any (fun w => prefB w.f0 (x.f2.getD 0 ⟨#[]⟩)) then Sum.inl true else Sum.inr ())
 | 0, i, hn => by
  refine Ev.step (fun k => by rw [grapevineref15_holds_l0]) (Ev.neg (by omega) ((Ev.now _).is ?_)); rw [List.drop_eq_nil_of_le (by omega)]; simp
 | n + 1, i, hn => by
  have hi : i < ws.length := by omega
  have hat : ((i : Nat) : Int).toNat = i := by omega
  refine Ev.step (fun k => by rw [grapevineref15_holds_l0]) ?_; refine Ev.pos (by omega) ?_; refine Ev.pos (by omega) ?_; rw [hat]; refine Ev.name fun v hv => ?_
  refine Ev.bind (b := prefB (ws.getD i z85).f0 (x.f2.getD 0 ⟨#[]⟩)) ?_ ?_
  ·refine Ev.pos (by omega) ?_; rw [hv]; unfold prefB; by_cases h : (x.f2.getD 0 ⟨#[]⟩).size ≤ (ws.getD i z85).f0.size
   ·have h' : (x.f2.getD (0 : Int).toNat ⟨#[]⟩).size ≤ (ws.getD i z85).f0.size := h; refine Ev.pos (by omega) (Ev.pos (by omega) (Ev.pos (by omega) (Ev.pos (by omega) ((Ev.now _).is ?_)))); rw [toList_beq, decide_eq_true h, Bool.true_and]; rfl
   ·have h' : ¬ (x.f2.getD (0 : Int).toNat ⟨#[]⟩).size ≤ (ws.getD i z85).f0.size := h; refine Ev.neg (by omega) ((Ev.now _).is ?_); rw [decide_eq_false h, Bool.false_and]
  ·rw [drop_getD ws z85 hi, List.any_cons]
   cases prefB (ws.getD i z85).f0 (x.f2.getD 0 ⟨#[]⟩)
   ·refine Ev.neg Bool.false_ne_true ?_; rw [i64w (by omega), show ((i : Nat) : Int) + 1 = ((i + 1 : Nat) : Int) by omega]; have := rPref_loop n (i + 1) (by omega); simpa using this
   ·exact Ev.pos rfl ((Ev.now _).is (by simp))
end
theorem holds_l2' (x : T25) (ws : List T85) : ∀ (k : Nat) (i : Int), grapevineref15_holds_l2 x ws k i = grapevineref15_holds_l0 x ws k i
 | 0, _ => rfl
 | k + 1, i => by
  rw [grapevineref15_holds_l2, grapevineref15_holds_l0]; simp only [holds_l2' x ws k]
theorem holds_l3' (x : T25) (r : T31) (ws : List T85) (R : T25 → T31 → List T85 → Option Bool) : ∀ (k : Nat) (i : Int), grapevineref15_holds_l3 x r ws R k i = grapevineref15_holds_l1 x r ws R k i
 | 0, _ => rfl
 | k + 1, i => by
  rw [grapevineref15_holds_l3, grapevineref15_holds_l1]; simp only [holds_l3' x r ws R k]
theorem rSubs_loop (x : T25) (r : T31) (ws : List T85) (g : T25 → Bool) (hl : x.f3.length < 4294967296) (hk : x.f0 = 7 ∨ x.f0 = 8) : ∀ (n i : Nat) (R : Nat → T25 → T31 → List T85 → Option Bool), (∀ s ∈ x.f3, Ev (fun k => R k s r ws) (g s)) → i + n = x.f3.length →
  Ev (fun k => grapevineref15_holds_l1 x r ws (R k) k (i : Int)) (if x.f0 = 7 then (if (x.f3.drop i).all g then Sum.inr () else Sum.inl false) else (if (x.f3.drop i).any g then Sum.inl true else Sum.inr ()))
 | 0, i, R, hR, hn => by
  refine Ev.step (fun k => by rw [grapevineref15_holds_l1]) (Ev.neg (by omega) ((Ev.now _).is ?_)); rw [List.drop_eq_nil_of_le (by omega)]; simp
 | n + 1, i, R, hR, hn => by
  have hi : i < x.f3.length := by omega
  have hat : ((i : Nat) : Int).toNat = i := by omega
  have ih := rSubs_loop x r ws g hl hk n (i + 1) (fun k => R (k + 1)) (fun s hs => (hR s hs).shift) (by omega); refine Ev.step (fun k => by rw [grapevineref15_holds_l1]) ?_; refine Ev.pos (by omega) ?_; refine Ev.pos (by omega) ?_; rw [hat, drop_getD x.f3 z25 hi, List.all_cons, List.any_cons]; refine Ev.bind (hR _ (getD_mem x.f3 z25 hi)).shift ?_; rw [i64w (by omega), show ((i : Nat) : Int) + 1 = ((i + 1 : Nat) : Int) by omega]; rcases hk with c | c
  ·have e1 : (x.f0 == 7) = true := by rw [c]; rfl
   have e2 : (x.f0 == 8) = false := by rw [c]; rfl
   rw [if_pos c, e1, e2]; rw [if_pos c] at ih
   cases g (x.f3.getD i z25)
   ·exact Ev.pos rfl ((Ev.now _).is (by simp))
   ·exact Ev.neg (by simp) (by simpa using ih)
  ·have e1 : (x.f0 == 7) = false := by rw [c]; rfl
   have e2 : (x.f0 == 8) = true := by rw [c]; rfl
   rw [if_neg (by omega), e1, e2]; rw [if_neg (by omega)] at ih
   cases g (x.f3.getD i z25)
   ·exact Ev.neg (by simp) (by simpa using ih)
   ·exact Ev.pos rfl ((Ev.now _).is (by simp))
theorem rholds_eq (k : Nat) (x : T25) (r : T31) (ws : List T85) : grapevineref15_holds (k + 1) x r ws =
  if x.f0 = 1 ∨ x.f0 = 3 then grapevineref15_Phrase k ws x.f2
  else if x.f0 = 2 then ((grapevineref15_holds_l0 x ws k 0).bind fun os => match os with | Sum.inl r => some r | Sum.inr _ => some false)
  else if x.f0 = 4 then some (r.f0 == x.f1) else if x.f0 = 5 then some (decide (r.f2 ≥ x.f1)) else if x.f0 = 6 then some (decide (r.f2 ≤ x.f1))
  else if x.f0 = 9 then (if 0 ≤ (0 : Int) ∧ (0 : Int) < (x.f3.length : Int) then ((grapevineref15_holds k (x.f3.getD (0 : Int).toNat z25) r ws).bind fun t => some (!t)) else none)
  else ((grapevineref15_holds_l1 x r ws (grapevineref15_holds k) k 0).bind fun os => match os with | Sum.inl r => some r | Sum.inr _ => some (x.f0 == 7)) := by
 rw [grapevineref15_holds]; simp only [holds_l2', holds_l3']; have id1 : ∀ {α : Type} (o : Option α), (o.bind fun s => some s) = o := fun o => by cases o <;> rfl
 simp only [id1]; by_cases h : x.f0 = 1 ∨ x.f0 = 2 ∨ x.f0 = 3 ∨ x.f0 = 4 ∨ x.f0 = 5 ∨ x.f0 = 6 ∨ x.f0 = 7 ∨ x.f0 = 8 ∨ x.f0 = 9
 ·rcases h with h | h | h | h | h | h | h | h | h <;> simp only [h] <;> rfl
 ·simp only [not_or] at h; obtain ⟨h1, h2, h3, h4, h5, h6, h7, h8, h9⟩ := h; simp only [h1, h2, h3, h4, h5, h6, h7, h8, h9, if_false, or_self]; rfl
theorem rholds_ev (r : T31) (ws : List T85) (hw : ws.length < 4294967296) : ∀ (d : Nat) (x : T25), SmallN d x → goodN d x = true → Ev (fun k => grapevineref15_holds k x r ws) (holdsN r.f0 r.f2 ws d x)
 | 0, x, h, _ => h.elim
 | d + 1, x, ⟨h1, h2, h3, h4⟩, hg => by
  obtain ⟨hs, hgs⟩ := goodN_shape hg; have ih : ∀ s ∈ x.f3, Ev (fun k => grapevineref15_holds k s r ws) (holdsN r.f0 r.f2 ws d s) := fun s hs => rholds_ev r ws hw d s (h4 s hs) (hgs s hs)
  refine Ev.step (fun k => rholds_eq k x r ws) ?_; simp only [holdsN]; refine Ev.ite (fun c => ?_) (fun c1 => ?_)
  ·rw [if_pos c]; exact rPhrase_ev ws x.f2 hw (by omega)
  rw [if_neg c1]; refine Ev.ite (fun c => ?_) (fun c2 => ?_)
  ·rw [if_pos c]; have := rPref_loop ws hw x (by omega) ws.length 0 (by omega); rw [List.drop_zero] at this; refine Ev.bind this ?_; unfold prefD
   cases ws.any (fun w => prefB w.f0 (x.f2.getD 0 ⟨#[]⟩))
   ·exact Ev.now _
   ·exact Ev.now _
  rw [if_neg c2]; refine Ev.ite (fun c => ?_) (fun c3 => ?_)
  ·rw [if_pos c]; exact Ev.now _
  rw [if_neg c3]; refine Ev.ite (fun c => ?_) (fun c4 => ?_)
  ·rw [if_pos c]; exact Ev.now _
  rw [if_neg c4]; refine Ev.ite (fun c => ?_) (fun c5 => ?_)
  ·rw [if_pos c]; exact Ev.now _
  rw [if_neg c5]; refine Ev.ite (fun c => ?_) (fun c6 => ?_)
  ·rw [if_neg (by omega), if_pos c]; refine Ev.pos (by omega) ?_; exact Ev.bind (ih _ (getD_mem x.f3 z25 (by omega))) (Ev.now _)
  ·have hl := rSubs_loop x r ws (holdsN r.f0 r.f2 ws d) (by omega) (by omega) x.f3.length 0 (fun k => grapevineref15_holds k) ih (by omega); rw [List.drop_zero] at hl; refine Ev.bind hl ?_; by_cases c : x.f0 = 7
   ·rw [if_pos c, if_neg (show ¬ x.f0 = 8 by omega), if_neg (show ¬ x.f0 = 9 by omega)]
    cases x.f3.all (holdsN r.f0 r.f2 ws d)
    ·exact Ev.now _
    ·exact (Ev.now _).is (by rw [c]; rfl)
   ·have c8 : x.f0 = 8 := by omega
    rw [if_neg c, if_pos c8]
    cases x.f3.any (holdsN r.f0 r.f2 ws d)
    ·exact (Ev.now _).is (by rw [c8]; rfl)
    ·exact Ev.now _
theorem rHolds_ev {d : Nat} (hd : d < 1000) {x : T25} {r : T31} (h : SmallN d x) (hc : cntN d x ≤ 1000) (hr : r.f4.size ≤ 9223372036854775807) : Ev (fun k => grapevineref15_Holds k x r) (holdsD d x r) := by
 unfold grapevineref15_Holds holdsD; have hl := OfD_len r.f4; refine Ev.bind ?_ (Ev.now _); refine Ev.bind (rAskMay_ev hd h hc) ?_
 cases hm : mayB d x
 ·exact Ev.neg Bool.false_ne_true ((Ev.now _).is (by simp))
 refine Ev.pos rfl ?_; rw [rrecMay_eq hr]; refine Ev.name fun v hv => ?_
 cases hb : recB r
 ·exact Ev.neg (by rw [hv, hb]; simp) ((Ev.now _).is (by simp))
 refine Ev.pos (by rw [hv, hb]) ?_; refine Ev.bind (rOf_ev hr) ?_; refine Ev.bind (rholds_ev r (OfD r.f4) (by omega) d x h (mayB_good hm)) ?_; exact (Ev.now _).is (by simp)
end Go.Proofs.YtbphlohiealbeaaGreatDoor.Pure
