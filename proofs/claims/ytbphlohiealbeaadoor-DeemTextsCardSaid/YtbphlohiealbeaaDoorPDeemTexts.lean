/- The plain law of DeemTexts. -/
import Derived.Test.YtbphlohiealbeaaDoorLDeemTexts
import Derived.Test.YtbphlohiealbeaaDoorPDeem3
namespace Go.Proofs.YtbphlohiealbeaaDoor.Pure
open Go Go.Gg Go.Gp Gf
set_option linter.unusedVariables false
set_option linter.unusedSimpArgs false

/-! ### one step deeper: the same -/
theorem up : ∀ (d : Nat) (x : T25), SmallN d x → SmallN (d + 1) x ∧ cntN (d + 1) x = cntN d x ∧ deepN (d + 1) x = deepN d x ∧ termsN (d + 1) x = termsN d x ∧ goodN (d + 1) x = goodN d x ∧ ∀ o wl ws, goodN d x = true → holdsN o wl ws (d + 1) x = holdsN o wl ws d x
  | 0, x, h => h.elim
  | d + 1, x, ⟨h1, h2, h3, h4⟩ => by
    have ih := fun s hs => up d s (h4 s hs)
    have e1 : x.f3.map (cntN (d + 1)) = x.f3.map (cntN d) := List.map_congr_left fun s hs => (ih s hs).2.1
    have e2 : x.f3.map (deepN (d + 1)) = x.f3.map (deepN d) := List.map_congr_left fun s hs => (ih s hs).2.2.1
    have e3 : x.f3.map (termsN (d + 1)) = x.f3.map (termsN d) := List.map_congr_left fun s hs => (ih s hs).2.2.2.1
    have e4 : x.f3.all (goodN (d + 1)) = x.f3.all (goodN d) := by
      rw [Bool.eq_iff_iff, List.all_eq_true, List.all_eq_true]
      exact ⟨fun h s hs => by rw [← (ih s hs).2.2.2.2.1]; exact h s hs, fun h s hs => by rw [(ih s hs).2.2.2.2.1]; exact h s hs⟩
    refine ⟨⟨h1, h2, h3, fun s hs => (ih s hs).1⟩, ?_, ?_, ?_, ?_, ?_⟩
    · rw [cntN, e1]; rfl
    · rw [deepN, e2]; rfl
    · rw [termsN, e3]; rfl
    · rw [goodN, e4]; rfl
    · intro o wl ws hg
      obtain ⟨hs, hgs⟩ := goodN_shape hg
      have ihh : ∀ s ∈ x.f3, holdsN o wl ws (d + 1) s = holdsN o wl ws d s := fun s hs => (ih s hs).2.2.2.2.2 o wl ws (hgs s hs)
      have e5 : x.f3.any (holdsN o wl ws (d + 1)) = x.f3.any (holdsN o wl ws d) := by
        rw [Bool.eq_iff_iff, List.any_eq_true, List.any_eq_true]
        exact ⟨fun ⟨s, hs, h⟩ => ⟨s, hs, by rw [← ihh s hs]; exact h⟩, fun ⟨s, hs, h⟩ => ⟨s, hs, by rw [ihh s hs]; exact h⟩⟩
      have e6 : x.f3.all (holdsN o wl ws (d + 1)) = x.f3.all (holdsN o wl ws d) := by
        rw [Bool.eq_iff_iff, List.all_eq_true, List.all_eq_true]
        exact ⟨fun h s hs => by rw [← ihh s hs]; exact h s hs, fun h s hs => by rw [ihh s hs]; exact h s hs⟩
      rw [holdsN, e5, e6]
      conv => rhs; rw [holdsN]
      by_cases c : x.f0 = 9
      · rw [ihh _ (getD_mem x.f3 z25 (by omega))]
      · simp only [c, if_false]

/-! ### filters -/
def filtN : Nat → T25 → Bool
  | 0, _ => false
  | d + 1, x => decide (x.f0 = 4 ∨ x.f0 = 5 ∨ x.f0 = 6) || x.f3.any (filtN d)
theorem filt_loop (x : T25) (g : T25 → Bool) (hl : x.f3.length < 4294967296) : ∀ (n i : Nat) (R : Nat → T25 → Option Bool), (∀ s ∈ x.f3, Ev (fun k => R k s) (g s)) → i + n = x.f3.length →
    Ev (fun k => grapevinelaw15_filtered_l0 x (R k) k (i : Int)) (if (x.f3.drop i).any g then Sum.inl true else Sum.inr ())
  | 0, i, R, hR, hn => by
    refine Ev.step (fun k => by rw [grapevinelaw15_filtered_l0]) (Ev.neg (by omega) ((Ev.now _).is ?_))
    rw [List.drop_eq_nil_of_le (by omega)]; simp
  | n + 1, i, R, hR, hn => by
    have hi : i < x.f3.length := by omega
    refine Ev.step (fun k => by rw [grapevinelaw15_filtered_l0]) ?_
    refine Ev.pos (by omega) ?_
    refine Ev.pos (by omega) ?_
    rw [show ((i : Nat) : Int).toNat = i by omega, drop_getD x.f3 z25 hi, List.any_cons]
    refine Ev.bind (hR _ (getD_mem x.f3 z25 hi)).shift ?_
    cases g (x.f3.getD i z25)
    · refine Ev.neg Bool.false_ne_true ?_
      rw [i64w (by omega), show ((i : Nat) : Int) + 1 = ((i + 1 : Nat) : Int) by omega]
      have := filt_loop x g hl n (i + 1) (fun k => R (k + 1)) (fun s hs => (hR s hs).shift) (by omega)
      simpa using this
    · exact Ev.pos rfl ((Ev.now _).is (by simp))
theorem filt_ev : ∀ (d : Nat) (x : T25), SmallN d x → Ev (fun k => grapevinelaw15_filtered k x) (filtN d x)
  | 0, x, h => h.elim
  | d + 1, x, ⟨h1, h2, h3, h4⟩ => by
    refine Ev.step (fun k => by rw [grapevinelaw15_filtered]) ?_
    have hc : Ev (fun _ => if x.f0 = 4 then some true else (if x.f0 = 5 then some true else some (x.f0 == 6))) (decide (x.f0 = 4 ∨ x.f0 = 5 ∨ x.f0 = 6)) := by
      refine Ev.ite (fun c => (Ev.now _).is ?_) (fun c => Ev.ite (fun c' => (Ev.now _).is ?_) (fun c' => (Ev.now _).is ?_))
      · rw [decide_eq_true (Or.inl c)]
      · rw [decide_eq_true (Or.inr (Or.inl c'))]
      · rw [Bool.eq_iff_iff, beq_iff_eq, decide_eq_true_eq]; omega
    refine Ev.bind hc ?_
    simp only [filtN]
    by_cases c : x.f0 = 4 ∨ x.f0 = 5 ∨ x.f0 = 6
    · rw [decide_eq_true c]; exact Ev.pos rfl ((Ev.now _).is (by simp))
    · rw [decide_eq_false c]
      refine Ev.neg Bool.false_ne_true ?_
      have := filt_loop x (filtN d) (by omega) x.f3.length 0 (fun k => grapevinelaw15_filtered k) (fun s hs => filt_ev d s (h4 s hs)) (by omega)
      rw [List.drop_zero] at this
      refine Ev.bind this ?_
      cases x.f3.any (filtN d)
      · exact Ev.now _
      · exact Ev.now _
theorem filt_holds (ws : List T45) (o wl o' wl' : Int) : ∀ (d : Nat) (x : T25), SmallN d x → goodN d x = true → filtN d x = false → holdsN o wl ws d x = holdsN o' wl' ws d x
  | 0, x, h, _, _ => h.elim
  | d + 1, x, ⟨h1, h2, h3, h4⟩, hg, hf => by
    obtain ⟨hs, hgs⟩ := goodN_shape hg
    simp only [filtN, Bool.or_eq_false_iff, decide_eq_false_iff_not, List.any_eq_false] at hf
    obtain ⟨hf1, hf2⟩ := hf
    have ih : ∀ s ∈ x.f3, holdsN o wl ws d s = holdsN o' wl' ws d s := fun s hs => filt_holds ws o wl o' wl' d s (h4 s hs) (hgs s hs) (by simpa using hf2 s hs)
    have e5 : x.f3.any (holdsN o wl ws d) = x.f3.any (holdsN o' wl' ws d) := by
      rw [Bool.eq_iff_iff, List.any_eq_true, List.any_eq_true]
      exact ⟨fun ⟨s, hs, h⟩ => ⟨s, hs, by rw [← ih s hs]; exact h⟩, fun ⟨s, hs, h⟩ => ⟨s, hs, by rw [ih s hs]; exact h⟩⟩
    have e6 : x.f3.all (holdsN o wl ws d) = x.f3.all (holdsN o' wl' ws d) := by
      rw [Bool.eq_iff_iff, List.all_eq_true, List.all_eq_true]
      exact ⟨fun h s hs => by rw [← ih s hs]; exact h s hs, fun h s hs => by rw [ih s hs]; exact h s hs⟩
    simp only [not_or] at hf1
    obtain ⟨c4, c5, c6⟩ := hf1
    simp only [holdsN, c4, c5, c6, if_false, e5, e6]
    by_cases c : x.f0 = 9
    · rw [ih _ (getD_mem x.f3 z25 (by omega))]
    · simp only [c, if_false]
theorem recB_wall {r : T31} (h : recB r = true) : 0 ≤ r.f2 := by
  unfold recB at h
  simp only [Bool.and_eq_true, decide_eq_true_eq] at h
  omega
theorem five_small (d : Nat) : SmallN (d + 1) ⟨5, 0, [], []⟩ ∧ cntN (d + 1) ⟨5, 0, [], []⟩ = 1 := by simp [SmallN, cntN]
theorem both_small {d : Nat} {c : Int} {a b : T25} (ha : SmallN d a) (hb : SmallN d b) : SmallN (d + 1) ⟨c, 0, [], [a, b]⟩ ∧ cntN (d + 1) ⟨c, 0, [], [a, b]⟩ = 1 + (cntN d a + cntN d b) := by simp [SmallN, cntN, ha, hb]
theorem DeemTexts : DeemTexts_Pure := by
  intro a r s ha hr hs
  have hrs : r.f4.size ≤ 9223372036854775807 := hr.2.2.2.2
  have hss : s.f4.size ≤ 9223372036854775807 := hs.2.2.2.2
  apply Ev.rounds
  unfold grapevinelaw15_DeemTexts
  rw [recMay_eq hrs, recMay_eq hss]
  obtain ⟨g, hg, hgs⟩ := GreatAsk_ev a
  have yes : ∀ {f : Nat → Option Bool}, Ev (fun k => if true = true then ((grapevinelaw15_awake k).bind fun t => some t) else f k) true := fun {f} => Ev.pos rfl (Ev.bind awake_ev (Ev.now _))
  cases g with
  | true => exact Ev.bind (b := true) (Ev.bind hg (Ev.pos rfl (Ev.now _))) yes
  | false =>
    obtain ⟨h1, h2⟩ := hgs rfl
    by_cases c1 : (r.f4.size : Int) > 300
    · exact Ev.bind (b := true) (Ev.bind hg (Ev.neg Bool.false_ne_true (Ev.pos c1 (Ev.now _)))) yes
    have hM := askMay_ev (d := 13) (by decide) h1 (by omega)
    cases hm : mayB 13 a
    · rw [hm] at hM
      exact Ev.bind (b := true) (Ev.bind hg (Ev.neg Bool.false_ne_true (Ev.neg c1 (Ev.bind hM (Ev.pos rfl (Ev.now _)))))) yes
    rw [hm] at hM
    cases hrb : recB r
    · exact Ev.bind (b := true) (Ev.bind hg (Ev.neg Bool.false_ne_true (Ev.neg c1 (Ev.bind hM (Ev.neg (by simp) (Ev.name fun v hv => Ev.pos (by rw [hv]; rfl) (Ev.now _))))))) yes
    cases hsb : recB s
    · exact Ev.bind (b := true) (Ev.bind hg (Ev.neg Bool.false_ne_true (Ev.neg c1 (Ev.bind hM (Ev.neg (by simp) (Ev.name fun v hv => Ev.neg (by rw [hv]; simp) (Ev.name fun v hv => (Ev.now _).is (by rw [hv]; rfl)))))))) yes
    refine Ev.bind (b := false) (Ev.bind hg (Ev.neg Bool.false_ne_true (Ev.neg c1 (Ev.bind hM (Ev.neg (by simp) (Ev.name fun v hv => Ev.neg (by rw [hv]; simp) (Ev.name fun v hv => (Ev.now _).is (by rw [hv]; rfl)))))))) ?_
    refine Ev.neg Bool.false_ne_true ?_
    have hgood := mayB_good hm
    obtain ⟨u1, u2, u3, u4, u5, u6⟩ := up 13 a h1
    obtain ⟨lf, hlf⟩ : ∃ x : T25, x = ⟨5, 0, [], []⟩ := ⟨_, rfl⟩
    obtain ⟨bo, hbo⟩ : ∃ x : T25, x = ⟨7, 0, [], [lf, a]⟩ := ⟨_, rfl⟩
    rw [← hlf, ← hbo]
    have lfS : SmallN 13 lf ∧ cntN 13 lf = 1 := by rw [hlf]; exact five_small 12
    have lfM : mayB 13 lf = true ∧ goodN 13 lf = true := by rw [hlf]; decide +kernel
    have lfH : holdsN r.f0 r.f2 (OfD r.f4) 13 lf = true := by rw [hlf]; exact decide_eq_true (recB_wall hrb)
    have boS : SmallN 14 bo ∧ cntN 14 bo = 1 + (cntN 13 lf + cntN 13 a) := by rw [hbo]; exact both_small lfS.1 h1
    have boH : holdsN r.f0 r.f2 (OfD r.f4) 14 bo = holdsN r.f0 r.f2 (OfD r.f4) 13 a := by
      rw [hbo]
      show (holdsN r.f0 r.f2 (OfD r.f4) 13 lf && (holdsN r.f0 r.f2 (OfD r.f4) 13 a && true)) = _
      rw [lfH]; simp
    have Ha : holdsD 13 a r = holdsN r.f0 r.f2 (OfD r.f4) 13 a := by unfold holdsD; rw [hm, hrb]; rfl
    refine Ev.bind (b := false) ?_ ?_
    · refine Ev.bind (askMay_ev (d := 14) (by decide) boS.1 (by omega)) ?_
      refine Ev.ite (fun e => ?_) (fun _ => Ev.now _)
      refine Ev.bind (Holds_ev (d := 14) (by decide) boS.1 (by omega) hrs) ?_
      refine Ev.bind (Holds_ev (d := 13) (by decide) h1 (by omega) hrs) ?_
      have Hb : holdsD 14 bo r = holdsN r.f0 r.f2 (OfD r.f4) 13 a := by unfold holdsD; rw [e, hrb, boH]; rfl
      exact (Ev.now _).is (by rw [Ha, Hb]; simp)
    refine Ev.neg Bool.false_ne_true (Ev.bind (b := true) ?_ (Ev.now _))
    have Hl : holdsD 13 lf r = true := by unfold holdsD; rw [lfM.1, hrb, lfH]; rfl
    have HL := Holds_ev (d := 13) (by decide) lfS.1 (by omega) hrs
    rw [Hl] at HL
    refine Ev.bind HL (Ev.pos rfl ?_)
    refine Ev.bind (filt_ev 13 a h1) ?_
    refine Ev.ite (fun _ => Ev.bind awake_ev (Ev.now _)) (fun e => ?_)
    have hf : filtN 13 a = false := by simpa using e
    refine Ev.bind (Holds_ev (d := 13) (by decide) h1 (by omega) hrs) ?_
    refine Ev.bind (Holds_ev (d := 13) (r := ⟨s.f0, s.f1, s.f2, s.f3, r.f4⟩) (by decide) h1 (by omega) hrs) ?_
    have hsb' : recB ⟨s.f0, s.f1, s.f2, s.f3, r.f4⟩ = true := by
      unfold recB at hrb hsb ⊢
      simp only [Bool.and_eq_true, decide_eq_true_eq] at hrb hsb ⊢
      exact ⟨hsb.1, hrb.2⟩
    have Hs : holdsD 13 a ⟨s.f0, s.f1, s.f2, s.f3, r.f4⟩ = holdsN r.f0 r.f2 (OfD r.f4) 13 a := by
      unfold holdsD
      rw [hm, hsb']
      show holdsN s.f0 s.f2 (OfD r.f4) 13 a = _
      exact filt_holds _ _ _ _ _ 13 a h1 hgood hf
    refine Ev.pos (by rw [Ha, Hs]; simp) ?_
    exact Ev.bind awake_ev (Ev.now _)
end Go.Proofs.YtbphlohiealbeaaDoor.Pure
