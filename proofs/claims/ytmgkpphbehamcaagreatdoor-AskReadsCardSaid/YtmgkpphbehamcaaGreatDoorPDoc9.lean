/- The document reads as the program does. -/
import Derived.Test.YtmgkpphbehamcaaGreatDoorPDoc8
import Derived.Test.YtmgkpphbehamcaaGreatDoorLAskReads
import Derived.Test.YtmgkpphbehamcaaGreatDoorPWr2
namespace Go.Proofs.YtmgkpphbehamcaaGreatDoor.Pure
open Go Go.Gg Go.Gp Gf
set_option linter.unusedVariables false
set_option linter.unusedSimpArgs false
def Fin (l : List (List UInt8)) (ok : Bool) (pr : PS × T34) (a' : T34) (q' : DS) : Prop :=
 ((pr.1.bad = true ∨ pr.1.over = false) ∧ (q'.bad = true ∨ q'.at_ ≠ l.length)) ∨ (pr.1.bad = false ∧ pr.1.over = true ∧ ok = true ∧ q'.bad = false ∧ q'.at_ = l.length ∧ a' = pr.2)
theorem rel_fin {l : List (List UInt8)} {ok : Bool} {p : PS} {q : DS} (h : Rel l ok p q) (a : T34) : Fin l ok (p, a) a q := by
 obtain ⟨h1, h2, ⟨h3, h4, h5, h6⟩ | ⟨h3, h4, h5⟩⟩ := h
 ·exact .inr ⟨h1, h3, h6, h2, h5, rfl⟩
 ·exact .inl ⟨.inr h3, .inr (by omega)⟩
theorem bad_pre {v w : List UInt8} (hv : BadI v) (h0 : w ≠ []) (hw : w.head? ≠ some 34) : ¬ Lib.hasPrefix v w = true := by
 cases w with
 | nil => exact absurd rfl h0
 | cons b u =>
  simp only [List.head?_cons, ne_eq, Option.some.injEq] at hw; rcases hv with rfl | hv
  ·simp [Lib.hasPrefix, List.isPrefixOf]
  ·cases v with
   | nil => cases hv
   | cons c t =>
    simp only [List.head?_cons, Option.some.injEq] at hv; subst hv; simp [Lib.hasPrefix, List.isPrefixOf, hw]
theorem aft_sim {l : List (List UInt8)} {ok : Bool} {p : PS} {q : DS} (h : Rel l ok p q) {a a' : T34} {q' : DS} (hs : AftSpec l q a a' q') : Fin l ok (afterP p a) a' q' := by
 have hs := hs.2.2 h.2.1; unfold afterP; rcases rel_step h with ⟨h1, h2, _, h3⟩ | ⟨h1, h2, _⟩
 ·have hat : q.at_ < l.length := by
   rcases h.2.2 with ⟨ho, _⟩ | ⟨_, h, _⟩
   ·refine absurd ?_ h2; unfold nextP; rw [if_pos (.inl ho)]
   ·exact h
  rw [h1]; generalize peekR l q = it at hs; by_cases hp : Lib.hasPrefix it AFTER = true
  ·rw [if_pos hp]; by_cases h6 : 6 < it.length
   ·rw [if_pos ⟨h6, hp⟩] at hs; obtain ⟨e1, e2⟩ := hs
    cases hn : numsL (splitW 46 (it.drop 6)) with
    | none =>
     rw [hn] at e2; exact .inl ⟨.inl rfl, .inl e2⟩
    | some ns =>
     rw [hn] at e2
     dsimp only at e2 ⊢
     by_cases hc : ns.length ≠ 4 ∨ ns.getD 3 0 = 0
     ·rw [if_pos hc] at e2 ⊢; exact .inl ⟨.inl rfl, .inl e2⟩
     ·rw [if_neg hc] at e2 ⊢; obtain ⟨e3, e4⟩ := e2; have hq : (⟨q.at_ + 1, false⟩ : DS) = q' := by
       cases q' with
       | mk x y => simp only at e1 e3; rw [e1, e3]
      rw [hq] at h3; rw [e4]; exact rel_fin h3 (setA a ns)
   ·rw [if_neg (fun e => h6 e.1)] at hs; obtain ⟨rfl, rfl⟩ := hs; have : it.drop 6 = [] := List.drop_eq_nil_of_le (by omega); rw [this]; have hn : numsL (splitW 46 []) = none := by
     rw [splitW_eq]; rfl
    rw [hn]; exact .inl ⟨.inl rfl, .inr (by omega)⟩
  ·rw [if_neg hp]; rw [if_neg (fun e => hp e.2)] at hs; obtain ⟨rfl, rfl⟩ := hs; exact rel_fin h _
 ·rw [if_neg (bad_pre h1 (by decide) (by decide))]; rw [if_neg (fun e => bad_pre h2 (by decide) (by decide) e.2)] at hs; obtain ⟨rfl, rfl⟩ := hs; exact rel_fin h _
theorem peek_len {l : List (List UInt8)} (hlw : ∀ w ∈ l, w.length ≤ 100000) (q : DS) : (peekR l q).length ≤ 100000 := by
 unfold peekR; by_cases h : q.at_ < l.length
 ·exact hlw _ (getD_mem l [] h)
 ·simp [List.getD_eq_getElem?_getD, List.getElem?_eq_none (Nat.le_of_not_lt h)]
theorem end_some {l : List (List UInt8)} (hlw : ∀ w ∈ l, w.length ≤ 100000) {q : DS} (hq : q.at_ ≤ 50000) (a : T34) {n : Int} (hn : toldL (peekR l q) LIMIT = some n) :
  ∃ a' q', Ev (fun k => grapevineref14_Reader_ending k (dst l q) a) (a', dst l q') ∧ AftSpec l ⟨q.at_ + 1, q.bad⟩ (setLimit a n) a' q' := by
 obtain ⟨r, h1, h2, h3⟩ := rbehind_ev (peekR l q) LIMIT (by have := peek_len hlw q; omega); rw [hn] at h2 h3; obtain ⟨a', q', h4, h5⟩ := tail_ev hlw (q := ⟨q.at_ + 1, q.bad⟩) (by show q.at_ + 1 ≤ _; omega) (setLimit a n); refine ⟨a', q', Ev.congr (fun k => ending_tail k _ _) ?_, h5⟩; rw [peek_eq]; refine Ev.bind (Ev.now _) (Ev.bind h1 (Ev.pos h2 ?_)); rw [dst_next l (by omega), dst_bad, h3 n rfl]; exact h4
theorem end_none {l : List (List UInt8)} (hlw : ∀ w ∈ l, w.length ≤ 100000) {q : DS} (hq : q.at_ ≤ 50000) (a : T34) (hn : toldL (peekR l q) LIMIT = none) :
  ∃ a' q', Ev (fun k => grapevineref14_Reader_ending k (dst l q) a) (a', dst l q') ∧ AftSpec l q a a' q' := by
 obtain ⟨r, h1, h2, h3⟩ := rbehind_ev (peekR l q) LIMIT (by have := peek_len hlw q; omega); rw [hn] at h2 h3; obtain ⟨a', q', h4, h5⟩ := tail_ev hlw (q := q) (by omega) a; refine ⟨a', q', Ev.congr (fun k => ending_tail k _ _) ?_, h5⟩; rw [peek_eq]; exact Ev.bind (Ev.now _) (Ev.bind h1 (Ev.neg (by rw [h2]; simp) h4))
theorem end_badR {l : List (List UInt8)} (hlw : ∀ w ∈ l, w.length ≤ 100000) {q : DS} (hq : q.at_ ≤ 50000) (hb : q.bad = true) (a : T34) :
  ∃ a' q', Ev (fun k => grapevineref14_Reader_ending k (dst l q) a) (a', dst l q') ∧ q'.bad = true := by
 cases hn : toldL (peekR l q) LIMIT with
 | none =>
  obtain ⟨a', q', h1, h2⟩ := end_none hlw hq a hn; exact ⟨a', q', h1, h2.2.1 hb⟩
 | some n =>
  obtain ⟨a', q', h1, h2⟩ := end_some hlw hq a hn; exact ⟨a', q', h1, h2.2.1 hb⟩
theorem end_sim {l : List (List UInt8)} {ok : Bool} (hll : l.length ≤ 1000) (hlw : ∀ w ∈ l, w.length ≤ 100000) {p : PS} {q : DS} (h : Rel l ok p q) (a : T34) :
  ∃ a' q', Ev (fun k => grapevineref14_Reader_ending k (dst l q) a) (a', dst l q') ∧ Fin l ok (endP p a) a' q' := by
 have hle := h.le; have hqb := h.2.1; unfold endP; rcases rel_step h with ⟨h1, h2, _, h3⟩ | ⟨h1, h2, _⟩
 ·rw [h1]
  cases hn : toldL (peekR l q) LIMIT with
  | none =>
   obtain ⟨a', q', h4, h5⟩ := end_none hlw (by omega) a hn; exact ⟨a', q', h4, aft_sim h h5⟩
  | some n =>
   obtain ⟨a', q', h4, h5⟩ := end_some hlw (by omega) a hn; rw [hqb] at h5; exact ⟨a', q', h4, aft_sim h3 h5⟩
 ·have n1 : ∀ v, BadI v → toldL v LIMIT = none := fun v hv => by
   unfold toldL; rw [if_neg (bad_pre hv (by decide) (by decide))]
  rw [n1 _ h1]; obtain ⟨a', q', h4, h5⟩ := end_none hlw (by omega) a (n1 _ h2); exact ⟨a', q', h4, aft_sim h h5⟩
theorem items_small : ∀ (n : Nat) (r : List UInt8), r.length ≤ n → (itemsR r).1.length ≤ r.length + 1 ∧ ∀ w ∈ (itemsR r).1, w.length ≤ r.length
 | n, r, hr => by
  rcases top_grp r with ⟨w, rest, h1, _, ⟨h2, h3⟩ | ⟨u, h2, h3⟩⟩ | ⟨h3, h4, _⟩
  ·rw [h3]; rw [h2, List.append_nil] at h1; refine ⟨by simp, fun x hx => ?_⟩; simp only [List.mem_singleton] at hx; rw [hx, h1]; exact Nat.le_refl _
  ·rw [h2] at h1; have hlen : r.length = w.length + u.length + 1 := by rw [h1]; simp; omega
   cases n with
   | zero => omega
   | succ n =>
    obtain ⟨h5, h6⟩ := items_small n u (by omega); rw [h3]; refine ⟨by rw [List.length_cons]; omega, fun x hx => ?_⟩; rcases List.mem_cons.1 hx with rfl | hx
    ·omega
    ·have := h6 x hx; omega
  ·rw [h3]; refine ⟨by simp, fun x hx => ?_⟩; simp only [List.mem_singleton] at hx
   cases r with
   | nil => cases h4
   | cons => rw [hx]; simp
theorem okP_no {s : List UInt8} (h : (rdP s).1.bad = true ∨ (rdP s).1.over = false) : readP s = (z34', 14) := by
 unfold readP okP; rw [if_neg]; rcases h with h | h <;> rw [h] <;> simp
theorem rRead_ev (s : List UInt8) (hl : s.length ≤ 1000000) : Ev (fun k => grapevineref14_Read k (ba s)) (readP s) := by
 unfold grapevineref14_Read; rw [ba_size]; by_cases hs : s.length ≤ 200
 case neg =>
  refine Ev.pos (by omega) ((Ev.now _).is ?_); unfold readP okP; rw [decide_eq_false hs]; rfl
 refine Ev.neg (by omega) ?_; have hit := items_ev s (by omega); obtain ⟨i1, i2⟩ := items_small s.length s (Nat.le_refl _); have hlw : ∀ w ∈ (itemsR s).1, w.length ≤ 100000 := fun w hw => by have := i2 w hw; omega
 have hll : (itemsR s).1.length ≤ 1000 := by omega
 have hpos : 0 < (itemsR s).1.length := by
  have := items_ne s
  cases h : (itemsR s).1 with
  | nil => exact absurd h this
  | cons => simp
 have hrel : Rel (itemsR s).1 (itemsR s).2 ⟨s, false, false⟩ ⟨0, false⟩ := ⟨rfl, rfl, .inr ⟨rfl, hpos, rfl⟩⟩; have hone : HS (itemsR s).1 (itemsR s).2 (oneP (s.length + 1)) (s.length + 1) (fun k => grapevineref14_Reader_one k) := one_sim hll hlw (s.length + 1) (by omega); obtain ⟨x, q1, h1, h2⟩ := any_sim hll (one_suf (s.length + 1)) (s.length + 1) _ hone (Nat.le_refl _) (by omega) ⟨s, false, false⟩ ⟨0, false⟩ hrel (by simp); have h1 : Ev (fun k => grapevineref14_Reader_any_77 (grapevineref14_Reader_one k) k (dst (itemsR s).1 ⟨0, false⟩)) (x, dst (itemsR s).1 q1) := h1; have hfin : ∃ a' q', Ev (fun k => grapevineref14_Reader_ending k (dst (itemsR s).1 q1) (⟨x.f0, x.f1, x.f2, x.f3, 50, 0, 0, 0, 0, (⟨#[]⟩ : ByteArray)⟩ : T34)) (a', dst (itemsR s).1 q') ∧ Fin (itemsR s).1 (itemsR s).2 (rdP s) a' q' := by
  rcases h2 with ⟨a, b, c⟩ | ⟨a, b⟩
  ·obtain ⟨a', q', h3, h4⟩ := end_badR hlw (q := q1) (by have c : q1.at_ ≤ (itemsR s).1.length + 1 + s.length := c; omega) b (⟨x.f0, x.f1, x.f2, x.f3, 50, 0, 0, 0, 0, (⟨#[]⟩ : ByteArray)⟩ : T34); exact ⟨a', q', h3, .inl ⟨.inl (end_bad _ a), .inl h4⟩⟩
  ·have a : x = (runP s).1 := a; have b : Rel (itemsR s).1 (itemsR s).2 (runP s).2 q1 := b; rw [a]; exact end_sim hll hlw b (qOf (runP s).1)
 obtain ⟨a', q', h3, h4⟩ := hfin; have hsz : 0 < ((itemsR s).1.map ba).length := by rw [List.length_map]; exact hpos
 cases hok : (itemsR s).2 with
 | false =>
  rw [hok] at hit h4; rw [okP_no (h4.elim (fun h => h.1) fun h => by cases h.2.2.1)]; refine Ev.bind hit (Ev.neg (by simp) (Ev.bind (b := true) (Ev.pos rfl (Ev.now _)) (Ev.pos rfl (Ev.now _))))
 | true =>
  rw [hok] at hit h4; refine Ev.bind hit (Ev.pos rfl (Ev.bind h1 (Ev.bind h3 ?_)))
  dsimp only
  rw [dst_bad]; have hat : (dst (itemsR s).1 q').f1 = ((q'.at_ : Nat) : Int) := rfl; have hlen : (((dst (itemsR s).1 q').f0.length : Nat) : Int) = (((itemsR s).1.length : Nat) : Int) := by
   have : (dst (itemsR s).1 q').f0 = (itemsR s).1.map ba := rfl; rw [this, List.length_map]
  rw [hat, hlen]; rcases h4 with ⟨h5, h6⟩ | ⟨h5, h6, _, h7, h8, h9⟩
  ·rw [okP_no h5]; refine Ev.bind (b := true) ?_ (Ev.pos rfl (Ev.now _)); by_cases hb : q'.bad = true
   ·exact Ev.pos hb (Ev.now _)
   ·exact Ev.neg hb (Ev.pos (by have := h6.resolve_left hb; omega) (Ev.now _))
  ·rw [h7, h9]; have hrb : (runP s).2.bad = false := by
    cases hq : (runP s).2.bad with
    | false => rfl
    | true =>
     have := end_bad (qOf (runP s).1) hq; unfold rdP at h5; rw [this] at h5
     cases h5
   have hsm := runP_small hs hrb; have hask : askOf (rdP s).2 = (runP s).1 := (end_ask _ _).trans (eta26 _); refine Ev.bind (b := !(mayQB 700 (rdP s).2)) (Ev.neg (by simp) (Ev.neg (by omega) (Ev.bind (rMayQuery_ev (d := 700) (by omega) (by rw [hask]; exact hsm.1) (by rw [hask]; have := hsm.2; omega)) (Ev.now _)))) ?_; unfold readP okP; rw [decide_eq_true hs, h5, h6]
   cases mayQB 700 (rdP s).2 with
   | true => exact Ev.neg (by simp) ((Ev.now _).is rfl)
   | false => exact Ev.pos (by simp) ((Ev.now _).is rfl)
end Go.Proofs.YtmgkpphbehamcaaGreatDoor.Pure
namespace Go.Proofs.YtmgkpphbehamcaaGreatDoor.Pure
open Go Go.Gg Go.Gp Gf
set_option linter.unusedVariables false
set_option linter.unusedSimpArgs false
theorem SameQuery_refl {d : Nat} {q : T34} (h : SmallN d (askOf q)) : Ev (fun k => grapevinelaw0_SameQuery k q q) true := by
 unfold grapevinelaw0_SameQuery; exact Ev.bind (Ev.pos rfl (Ev.pos rfl (Ev.bind (SameAsk_refl d (askOf q) h) (Ev.now _)))) (Ev.now _)
theorem read_small (s : List UInt8) : SmallN 700 (askOf (readP s).1) := by
 have hz : SmallN 700 (askOf z34') := by
  have h1 : SmallN 1 (askOf z34') := ⟨by simp [z34', askOf], by simp [z34', askOf], by simp [z34', askOf], by simp [z34', askOf]⟩; exact (small_ups 1 _ h1 699).1
 by_cases hok : okP s = true
 ·have hr : readP s = ((rdP s).2, 0) := by unfold readP; rw [if_pos hok]
  rw [hr]; unfold okP at hok; simp only [Bool.and_eq_true, decide_eq_true_eq, Bool.not_eq_true'] at hok; obtain ⟨hs, h5, h6, _⟩ := hok; have hrb : (runP s).2.bad = false := by
   cases hq : (runP s).2.bad with
   | false => rfl
   | true =>
    have := end_bad (qOf (runP s).1) hq; unfold rdP at h5; rw [this] at h5
    cases h5
  have hsm := runP_small hs hrb; have hask : askOf (rdP s).2 = (runP s).1 := (end_ask _ _).trans (eta26 _); show SmallN 700 (askOf (rdP s).2); rw [hask]; exact hsm.1
 ·have hr : readP s = (z34', 14) := by unfold readP; rw [if_neg hok]
  rw [hr]; exact hz
theorem over_loop : ∀ (n i : Nat) (l : List ByteArray), i + n = l.length → l.length ≤ 1000000 → ∃ r, Ev (fun k => grapevinelaw0_OverTexts_l0 k (i : Int) l) r ∧ r.length = l.length
 | 0, i, l, hi, hl => ⟨l, Ev.step (fun k => by rw [grapevinelaw0_OverTexts_l0]) (Ev.neg (by omega) (Ev.now _)), rfl⟩
 | n + 1, i, l, hi, hl => by
  have e1 : IntKind.i64.wrap ((i : Int) + 1) = ((i + 1 : Nat) : Int) := by rw [i64w (by omega)]; omega
  obtain ⟨r, h1, h2⟩ := over_loop n (i + 1) (l.set i ⟨#[111, 118, 101, 114]⟩) (by rw [List.length_set]; omega) (by rw [List.length_set]; omega); refine ⟨r, Ev.step (fun k => by rw [grapevinelaw0_OverTexts_l0]) (Ev.pos (by omega) (Ev.pos (by omega) ?_)), by rw [h2, List.length_set]⟩; rw [e1, Int.toNat_natCast]; exact h1
theorem over_ev (l : List ByteArray) (hl : l.length ≤ 1000000) : Ev (fun k => grapevinelaw0_OverTexts k l) () := by
 unfold grapevinelaw0_OverTexts; obtain ⟨r, h1, h2⟩ := over_loop l.length 0 l (by omega) hl; exact Ev.bind h1 (Ev.pos (by rw [List.length_singleton]; omega) (Ev.now _))
theorem subs_loop : ∀ (n i : Nat) (q : T34), i + n = q.f3.length → q.f3.length ≤ 1000000 → ∃ r, Ev (fun k => grapevinelaw14_AskReads_l0 k (i : Int) q) r
 | 0, i, q, hi, hl => ⟨q, Ev.step (fun k => by rw [grapevinelaw14_AskReads_l0]) (Ev.neg (by omega) (Ev.now _))⟩
 | n + 1, i, q, hi, hl => by
  have e1 : IntKind.i64.wrap ((i : Int) + 1) = ((i + 1 : Nat) : Int) := by rw [i64w (by omega)]; omega
  obtain ⟨r, h1⟩ := subs_loop n (i + 1) (⟨q.f0, q.f1, q.f2, (q.f3.set i (⟨(-9), 0, ([] : List ByteArray), ([] : List T26)⟩ : T26)), q.f4, q.f5, q.f6, q.f7, q.f8, q.f9⟩ : T34) (by simp only [List.length_set]; omega) (by simp only [List.length_set]; omega); refine ⟨r, Ev.step (fun k => by rw [grapevinelaw14_AskReads_l0]) (Ev.pos (by omega) (Ev.pos (by omega) ?_))⟩; rw [e1, Int.toNat_natCast]; exact h1
theorem AskReads : AskReads_Pure := by
 intro a0 hsz
 suffices h : Ev (fun k => grapevinelaw14_AskReads k a0) true from h.rounds
 obtain ⟨s, rfl⟩ : ∃ s, a0 = ba s := ⟨a0.data.toList, rfl⟩; unfold grapevinelaw14_AskReads; rw [ba_size]; by_cases hs : s.length ≤ 300
 case neg => exact Ev.pos (by omega) (Ev.bind awake_ev (Ev.now _))
 refine Ev.neg (by omega) ?_; have hsm := read_small s; have hread := Read_ev s (by omega); have hsq := SameQuery_refl hsm; obtain ⟨h1, h2, h3, h4⟩ : SmallN (699 + 1) (askOf (readP s).1) := hsm; have h1 : (readP s).1.f2.length ≤ 300 := h1; have h3 : (readP s).1.f3.length ≤ 1000 := h3; obtain ⟨r, hr⟩ := subs_loop (readP s).1.f3.length 0 (readP s).1 (by omega) (by omega); refine Ev.bind hread (Ev.bind (rRead_ev s (by omega)) (Ev.bind (b := true) ?_ (Ev.bind (over_ev (readP s).1.f2 (by omega)) (Ev.bind hr (Ev.bind hread (Ev.bind (b := true) ?_ (Ev.now _)))))))
 ·refine Ev.bind hsq (Ev.pos rfl (Ev.bind (Ev.now _) ((Ev.now _).is ?_))); simp
 ·exact Ev.pos rfl (Ev.bind hsq (Ev.pos rfl (Ev.bind awake_ev (Ev.now _))))
end Go.Proofs.YtmgkpphbehamcaaGreatDoor.Pure
