/- The plain law of AskJoins: two questions in brackets with a word between are read as both, joined so. -/
import Derived.Test.YtmgkpphbehamcaaGreatDoorLAskJoins
import Derived.Test.YtmgkpphbehamcaaGreatDoorPAwk
import Derived.Test.YtmgkpphbehamcaaGreatDoorPBrk
namespace Go.Proofs.YtmgkpphbehamcaaGreatDoor.Pure
open Go Go.Gg Go.Gp Gf
set_option linter.unusedVariables false
set_option linter.unusedSimpArgs false
def oP : PS := ⟨[], true, false⟩
theorem read_ok (l : List UInt8) : (readP l).2 = 0 ↔ okP l = true := by
 unfold readP; by_cases h : okP l = true
 ·rw [if_pos h]; simp [h]
 ·rw [if_neg h]; simp [h]
theorem plain_ev {s : List UInt8} (hs : s.length ≤ 100000) : ∃ b, Ev (fun k => grapevinelaw14_plain k (ba s)) b ∧ (b = true → okP s = true ∧ (runP s).2.over = true) := by
 obtain ⟨c, hc, hiff⟩ := ending_ev (s := s) (by omega); unfold grapevinelaw14_plain; have hR := Read_ev s (by omega); by_cases h1 : (readP s).2 = 0
 case neg => exact ⟨false, Ev.bind hR (Ev.bind (Ev.neg h1 (Ev.now _)) (Ev.now _)), fun h => (by cases h)⟩
 by_cases h2 : (readP s).1.f4 = 50
 case neg => exact ⟨false, Ev.bind hR (Ev.bind (Ev.pos h1 (Ev.neg h2 (Ev.now _))) (Ev.now _)), fun h => (by cases h)⟩
 by_cases h3 : (⟨(readP s).1.f5, (readP s).1.f6, (readP s).1.f7, (readP s).1.f8, (readP s).1.f9⟩ : T32) = (⟨0, 0, 0, 0, (⟨#[]⟩ : ByteArray)⟩ : T32)
 case neg => exact ⟨false, Ev.bind hR (Ev.bind (Ev.pos h1 (Ev.pos h2 (Ev.neg h3 (Ev.now _)))) (Ev.now _)), fun h => (by cases h)⟩
 refine ⟨c, Ev.bind hR (Ev.bind (Ev.pos h1 (Ev.pos h2 (Ev.pos h3 (Ev.bind hc (Ev.now _))))) (Ev.now _)), fun h => ?_⟩; have hno := hiff.1 h; have hok := (read_ok s).1 h1; refine ⟨hok, ?_⟩; obtain ⟨_, p2, p3, _⟩ := ok_parts hok
 cases ho : (runP s).2.over with
 | true => rfl
 | false =>
  exfalso; obtain ⟨a, _⟩ := end_over ho p3 p2; obtain ⟨pre, hpre⟩ := any_suf (one_suf (s.length + 1)) (s.length + 1) ⟨s, false, false⟩; have hd : s.drop pre.length = (runP s).2.rest := by
   have : pre ++ (runP s).2.rest = s := hpre
   conv => lhs; rw [← this]
   exact List.drop_left
  have hn := nextP_pre (runP s).2; have := hno pre.length; rw [hd] at this; rcases a with a | a
  ·exact this.1 (a.trans hn)
  ·exact this.2 (a.trans hn)
theorem brk_whole {s post : List UInt8} (hok : okP s = true) (hov : (runP s).2.over = true) (hB : Behind post) {p : PS} (hr : p.rest = 40 :: 32 :: (s ++ 32 :: post)) (ho : p.over = false) (hb : p.bad = false) (n : Nat) (hn : s.length + 1 ≤ n) :
  oneP (n + 1) p = ((runP s).1, takeP ⟨post, false, false⟩) := by
 have hX := ok_run hok; obtain ⟨q, hq, hone⟩ := brk_one hB hr ho hb n hn hX; have hqq : q = ⟨post, false, false⟩ := by
  obtain ⟨h1, h2, _, h4⟩ := hq; have := h4 hov; obtain ⟨r, o, b⟩ := q; simp only at this h1 h2; subst this; subst h2; rw [h1.trans hX]
 subst hqq; have hn41 : nextP ⟨post, false, false⟩ = [41] := by unfold nextP; rw [if_neg (by simp)]; exact hB
 rw [hone, if_pos hn41]
theorem take_end : takeP ⟨[41], false, false⟩ = oP := by decide
theorem brk_last {s : List UInt8} (hok : okP s = true) (hov : (runP s).2.over = true) {p : PS} (hr : p.rest = 40 :: 32 :: (s ++ 32 :: [41])) (ho : p.over = false) (hb : p.bad = false) (n : Nat) (hn : s.length + 1 ≤ n) : oneP (n + 1) p = ((runP s).1, oP) := by
 rw [brk_whole hok hov behind1 hr ho hb n hn, take_end]
def mid (w t : List UInt8) : List UInt8 := 41 :: 32 :: (w ++ 32 :: (40 :: 32 :: (t ++ 32 :: [41])))
theorem mid_behind (w t : List UInt8) : Behind (mid w t) := by
 show itemL (mid w t) = [41]; unfold itemL mid; simp
theorem mid_take (w t : List UInt8) : takeP ⟨mid w t, false, false⟩ = ⟨w ++ 32 :: (40 :: 32 :: (t ++ 32 :: [41])), false, false⟩ := by
 have hn : nextP ⟨mid w t, false, false⟩ = [41] := by unfold nextP; rw [if_neg (by simp)]; exact mid_behind w t
 unfold takeP; rw [hn]; simp [mid]
theorem word_take {w : List UInt8} (h0 : w ≠ []) (h34 : w.head? ≠ some 34) (h32 : 32 ∉ w) (r : List UInt8) : nextP ⟨w ++ 32 :: r, false, false⟩ = w ∧ takeP ⟨w ++ 32 :: r, false, false⟩ = ⟨r, false, false⟩ := by
 have hn : nextP ⟨w ++ 32 :: r, false, false⟩ = w := by
  unfold nextP; rw [if_neg (by simp), item_app (fun e => h34 e.1)]; unfold itemL; rw [if_neg (fun e => h34 e.1)]; exact takeWhile_self _ _ fun x hx => by simp only [bne_iff_ne, ne_eq]; exact fun e => h32 (e ▸ hx)
 refine ⟨hn, ?_⟩; unfold takeP; rw [hn, if_neg h0]; simp
theorem next_oP : nextP oP = [] := rfl
def txt (w s t : List UInt8) : List UInt8 := 40 :: 32 :: (s ++ 32 :: mid w t)
theorem txt_len (w s t : List UInt8) : (txt w s t).length = s.length + w.length + t.length + 10 := by simp [txt, mid]; omega
theorem and_run {s t : List UInt8} (hs : okP s = true) (ht : okP t = true) (os : (runP s).2.over = true) (ot : (runP t).2.over = true) : runP (txt AND s t) = (⟨7, 0, [], [(runP s).1, (runP t).1]⟩, oP) := by
 have hl := txt_len AND s t; have hone : oneP ((txt AND s t).length + 1) ⟨txt AND s t, false, false⟩ = ((runP s).1, ⟨AND ++ 32 :: (40 :: 32 :: (t ++ 32 :: [41])), false, false⟩) := by
  rw [brk_whole hs os (mid_behind AND t) rfl rfl rfl _ (by omega), mid_take]
 have hone2 : oneP ((txt AND s t).length + 1) ⟨40 :: 32 :: (t ++ 32 :: [41]), false, false⟩ = ((runP t).1, oP) := brk_last ht ot rfl rfl rfl _ (by omega); obtain ⟨w1, w2⟩ := word_take (w := AND) (by decide) (by decide) (by decide) (40 :: 32 :: (t ++ 32 :: [41])); have hall : allP (oneP ((txt AND s t).length + 1)) ((txt AND s t).length + 1) ⟨txt AND s t, false, false⟩ = (⟨7, 0, [], [(runP s).1, (runP t).1]⟩, oP) := by
  unfold allP joinP; rw [hone]
  dsimp only
  rw [loopP, w1, if_pos ⟨rfl, rfl⟩, w2, hone2]
  dsimp only
  rw [loop_end _ AND (by decide) _ (by omega) _ (by rw [next_oP]; decide)]; rfl
 unfold runP anyP joinP; rw [hall]
 dsimp only
 rw [loop_end _ OR (by decide) _ (by omega) _ (by rw [next_oP]; decide)]; rfl
theorem or_run {s t : List UInt8} (hs : okP s = true) (ht : okP t = true) (os : (runP s).2.over = true) (ot : (runP t).2.over = true) : runP (txt OR s t) = (⟨8, 0, [], [(runP s).1, (runP t).1]⟩, oP) := by
 have hl := txt_len OR s t; have hone : oneP ((txt OR s t).length + 1) ⟨txt OR s t, false, false⟩ = ((runP s).1, ⟨OR ++ 32 :: (40 :: 32 :: (t ++ 32 :: [41])), false, false⟩) := by
  rw [brk_whole hs os (mid_behind OR t) rfl rfl rfl _ (by omega), mid_take]
 have hone2 : oneP ((txt OR s t).length + 1) ⟨40 :: 32 :: (t ++ 32 :: [41]), false, false⟩ = ((runP t).1, oP) := brk_last ht ot rfl rfl rfl _ (by omega); obtain ⟨w1, w2⟩ := word_take (w := OR) (by decide) (by decide) (by decide) (40 :: 32 :: (t ++ 32 :: [41])); have hall : allP (oneP ((txt OR s t).length + 1)) ((txt OR s t).length + 1) ⟨txt OR s t, false, false⟩ = ((runP s).1, ⟨OR ++ 32 :: (40 :: 32 :: (t ++ 32 :: [41])), false, false⟩) := by
  unfold allP joinP; rw [hone]
  dsimp only
  rw [loop_end _ AND (by decide) _ (by omega) _ (by rw [w1]; decide)]; rfl
 have hall2 : allP (oneP ((txt OR s t).length + 1)) ((txt OR s t).length + 1) ⟨40 :: 32 :: (t ++ 32 :: [41]), false, false⟩ = ((runP t).1, oP) := by
  unfold allP joinP; rw [hone2]
  dsimp only
  rw [loop_end _ AND (by decide) _ (by omega) _ (by rw [next_oP]; decide)]; rfl
 unfold runP anyP joinP; rw [hall]
 dsimp only
 rw [loopP, w1, if_pos ⟨rfl, rfl⟩, w2, hall2]
 dsimp only
 rw [loop_end _ OR (by decide) _ (by omega) _ (by rw [next_oP]; decide)]; rfl
def txtN (s : List UInt8) : List UInt8 := NOT_ ++ 32 :: (40 :: 32 :: (s ++ 32 :: [41]))
theorem not_run {s : List UInt8} (hs : okP s = true) (os : (runP s).2.over = true) : runP (txtN s) = (⟨9, 0, [], [(runP s).1]⟩, oP) := by
 have hl : (txtN s).length = s.length + 8 := by simp [txtN, NOT_]
 obtain ⟨w1, w2⟩ := word_take (w := NOT_) (by decide) (by decide) (by decide) (40 :: 32 :: (s ++ 32 :: [41])); have hone : oneP ((txtN s).length + 1) ⟨txtN s, false, false⟩ = (⟨9, 0, [], [(runP s).1]⟩, oP) := by
  rw [oneP]; unfold txtN; rw [w1, if_pos rfl, w2]; have hk : (NOT_ ++ 32 :: (40 :: 32 :: (s ++ 32 :: [41]))).length = (s.length + 7) + 1 := hl; rw [hk, brk_last hs os rfl rfl rfl _ (by omega)]
 have hn : nextP (oneP ((txtN s).length + 1) ⟨txtN s, false, false⟩).2 = [] := by rw [hone]; rfl
 unfold runP; rw [any_single _ _ (by omega) _ (by rw [hn]; decide) (by rw [hn]; decide), hone]; rfl
theorem whole_ok {T : List UInt8} {x : T26} (hl : T.length ≤ 200) (h : runP T = (x, oP)) : okP T = mayB 700 x := by
 have hrd : rdP T = (oP, qOf x) := by
  unfold rdP; rw [h]; rfl
 unfold okP; rw [hrd, decide_eq_true hl]; have hm : mayQB 700 (qOf x) = mayB 700 x := by
  unfold mayQB; have : askOf (qOf x) = x := eta26 x; rw [this]; have : (decide (1 ≤ (qOf x).f4 ∧ (qOf x).f4 ≤ 50) && aftB (qOf x)) = true := by simp [aftB, aft, qOf]
  rw [this, Bool.and_true]
 rw [hm]; rfl
theorem whole_ev {T : List UInt8} {x : T26} (hl : T.length ≤ 200) (h : runP T = (x, oP)) : Ev (fun k => ask_May k x) (decide ((readP T).2 = 0)) ∧ ((readP T).2 = 0 → Ev (fun k => grapevinelaw0_SameAsk k (askOf (readP T).1) x) true) := by
 have hsm := runP_small hl (by rw [h]; rfl); rw [h] at hsm; refine ⟨(askMay_ev (d := 700) (by omega) hsm.1 (by have := hsm.2; omega)).is ?_, fun h0 => ?_⟩
 ·rw [← whole_ok hl h, Bool.eq_iff_iff, decide_eq_true_eq]; exact (read_ok T).symm
 ·rw [read_ask ((read_ok T).1 h0), h]; exact SameAsk_refl 700 x hsm.1
theorem AskJoins : AskJoins_Pure := by
 intro s t hs0 ht0; obtain ⟨s, rfl⟩ : ∃ l, s = ba l := ⟨s.data.toList, rfl⟩; obtain ⟨t, rfl⟩ : ∃ l, t = ba l := ⟨t.data.toList, rfl⟩; apply Ev.rounds; unfold grapevinelaw14_AskJoins; have aw : Ev (fun k => (grapevinelaw14_awake k).bind fun t => some t) true := Ev.bind awake_ev (Ev.now _); rw [ba_size, ba_size]; by_cases c1 : (s.length : Int) > 60
 ·exact Ev.bind (b := true) (Ev.pos c1 (Ev.now _)) (Ev.pos rfl aw)
 by_cases c2 : (t.length : Int) > 60
 ·exact Ev.bind (b := true) (Ev.neg c1 (Ev.pos c2 (Ev.now _))) (Ev.pos rfl aw)
 obtain ⟨b1, hb1, k1⟩ := plain_ev (s := s) (by omega); obtain ⟨b2, hb2, k2⟩ := plain_ev (s := t) (by omega)
 cases b1 with
 | false => exact Ev.bind (b := true) (Ev.neg c1 (Ev.neg c2 (Ev.bind hb1 (Ev.pos rfl (Ev.now _))))) (Ev.pos rfl aw)
 | true =>
 cases b2 with
 | false => exact Ev.bind (b := true) (Ev.neg c1 (Ev.neg c2 (Ev.bind hb1 (Ev.neg (by decide) (Ev.bind hb2 (Ev.now _)))))) (Ev.pos rfl aw)
 | true =>
 refine Ev.bind (b := false) (Ev.neg c1 (Ev.neg c2 (Ev.bind hb1 (Ev.neg (by decide) (Ev.bind hb2 (Ev.now _)))))) (Ev.neg (by decide) ?_); obtain ⟨os, vs⟩ := k1 rfl; obtain ⟨ot, vt⟩ := k2 rfl; have i1 := and_run os ot vs vt; have i2 := or_run os ot vs vt; have i3 := not_run os vs; have l1 := txt_len AND s t; have l2 := txt_len OR s t; have l3 : (txtN s).length = s.length + 8 := by simp [txtN, NOT_]
 have la : AND.length = 3 := rfl; have lo : OR.length = 2 := rfl; obtain ⟨m1, n1⟩ := whole_ev (by omega) i1; obtain ⟨m2, n2⟩ := whole_ev (by omega) i2; obtain ⟨m3, n3⟩ := whole_ev (by omega) i3; have e1 : (⟨#[40, 32]⟩ : ByteArray) ++ ba s ++ (⟨#[32, 41, 32, 65, 78, 68, 32, 40, 32]⟩ : ByteArray) ++ ba t ++ (⟨#[32, 41]⟩ : ByteArray) = ba (txt AND s t) := by
  show ba [40, 32] ++ ba s ++ ba [32, 41, 32, 65, 78, 68, 32, 40, 32] ++ ba t ++ ba [32, 41] = _; rw [ba_app, ba_app, ba_app, ba_app]
  congr 1
  simp [txt, mid, AND]
 have e2 : (⟨#[40, 32]⟩ : ByteArray) ++ ba s ++ (⟨#[32, 41, 32, 79, 82, 32, 40, 32]⟩ : ByteArray) ++ ba t ++ (⟨#[32, 41]⟩ : ByteArray) = ba (txt OR s t) := by
  show ba [40, 32] ++ ba s ++ ba [32, 41, 32, 79, 82, 32, 40, 32] ++ ba t ++ ba [32, 41] = _; rw [ba_app, ba_app, ba_app, ba_app]
  congr 1
  simp [txt, mid, OR]
 have e3 : (⟨#[78, 79, 84, 32, 40, 32]⟩ : ByteArray) ++ ba s ++ (⟨#[32, 41]⟩ : ByteArray) = ba (txtN s) := by
  show ba [78, 79, 84, 32, 40, 32] ++ ba s ++ ba [32, 41] = _; rw [ba_app, ba_app]; simp [txtN, NOT_]
 have z1 : (⟨#[40, 32]⟩ : ByteArray).size = 2 := rfl; have z2 : (⟨#[32, 41]⟩ : ByteArray).size = 2 := rfl; have z3 : (⟨#[32, 41, 32, 65, 78, 68, 32, 40, 32]⟩ : ByteArray).size = 9 := rfl; have z4 : (⟨#[32, 41, 32, 79, 82, 32, 40, 32]⟩ : ByteArray).size = 8 := rfl; have z5 : (⟨#[78, 79, 84, 32, 40, 32]⟩ : ByteArray).size = 6 := rfl; refine Ev.bind (Read_ev s (by omega)) ?_; refine Ev.bind (Read_ev t (by omega)) ?_; refine Ev.pos (by rw [z1]; omega) (Ev.pos (by rw [ByteArray.size_append, z1, z3, ba_size]; omega) (Ev.pos (by rw [ByteArray.size_append, ByteArray.size_append, z1, z3, ba_size]; omega) (Ev.pos (by rw [ByteArray.size_append, ByteArray.size_append, ByteArray.size_append, z1, z2, z3, ba_size, ba_size]; omega) ?_))); rw [e1]; refine Ev.bind (Read_ev (txt AND s t) (by omega)) ?_; refine Ev.pos (by rw [z1]; omega) (Ev.pos (by rw [ByteArray.size_append, z1, z4, ba_size]; omega) (Ev.pos (by rw [ByteArray.size_append, ByteArray.size_append, z1, z4, ba_size]; omega) (Ev.pos (by rw [ByteArray.size_append, ByteArray.size_append, ByteArray.size_append, z1, z2, z4, ba_size, ba_size]; omega) ?_))); rw [e2]; refine Ev.bind (Read_ev (txt OR s t) (by omega)) ?_; refine Ev.pos (by rw [z5]; omega) (Ev.pos (by rw [ByteArray.size_append, z5, z2, ba_size]; omega) ?_); rw [e3]; refine Ev.bind (Read_ev (txtN s) (by omega)) ?_; refine Ev.bind ?_ (Ev.now _); have hask : ∀ q : T34, (⟨q.f0, q.f1, q.f2, q.f3⟩ : T26) = askOf q := fun q => rfl
 simp only [hask]; rw [read_ask os, read_ask ot]; have hd : ∀ z : Int, ((z == 0) == decide (z = 0)) = true := fun z => beq_self_eq_true (decide (z = 0))
 refine Ev.bind m1 (Ev.pos (hd _) (Ev.bind m2 (Ev.pos (hd _) (Ev.bind m3 (Ev.pos (hd _) ?_))))); have N3 : Ev (fun k => (if ¬ (readP (txtN s)).2 = 0 then ((grapevinelaw14_awake k).bind fun t116 => some t116) else ((grapevinelaw0_SameAsk k (askOf (readP (txtN s)).1) (⟨9, 0, ([] : List ByteArray), ([(runP s).1] : List T26)⟩ : T26)).bind fun t120 => (if t120 = true then ((grapevinelaw14_awake k).bind fun t126 => some t126) else some false)))) true :=
  Ev.ite (fun _ => aw) (fun h => Ev.bind (n3 (Decidable.not_not.1 h)) (Ev.pos rfl aw))
 refine Ev.ite (fun _ => ?_) (fun h => Ev.bind (n1 (Decidable.not_not.1 h)) (Ev.pos rfl ?_))
 ·exact Ev.ite (fun _ => N3) (fun h => Ev.bind (n2 (Decidable.not_not.1 h)) (Ev.pos rfl N3))
 ·exact Ev.ite (fun _ => N3) (fun h => Ev.bind (n2 (Decidable.not_not.1 h)) (Ev.pos rfl N3))
end Go.Proofs.YtmgkpphbehamcaaGreatDoor.Pure
