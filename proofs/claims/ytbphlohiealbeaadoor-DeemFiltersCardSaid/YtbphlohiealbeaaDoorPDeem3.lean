/- Of which records a question holds: the document's answer; which records may be; what every program answers that is one. -/
import Derived.Test.YtbphlohiealbeaaDoorF0
import Derived.Test.YtbphlohiealbeaaDoorF1
import Derived.Test.YtbphlohiealbeaaDoorF5
import Derived.Test.YtbphlohiealbeaaDoorPDeem2
namespace Go.Proofs.YtbphlohiealbeaaDoor.Pure
open Go Go.Gg Go.Gp Gf
set_option linter.unusedVariables false
set_option linter.unusedSimpArgs false

theorem rSubs_loop (x : T25) (r : T31) (ws : List T45) (g : T25 → Bool) (hl : x.f3.length < 4294967296) (hk : x.f0 = 7 ∨ x.f0 = 8) : ∀ (n i : Nat) (R : Nat → T25 → T31 → List T45 → Option Bool), (∀ s ∈ x.f3, Ev (fun k => R k s r ws) (g s)) → i + n = x.f3.length →
    Ev (fun k => grapevineref15_holds_l1 x r ws (R k) k (i : Int)) (if x.f0 = 7 then (if (x.f3.drop i).all g then Sum.inr () else Sum.inl false) else (if (x.f3.drop i).any g then Sum.inl true else Sum.inr ()))
  | 0, i, R, hR, hn => by
    refine Ev.step (fun k => by rw [grapevineref15_holds_l1]) (Ev.neg (by omega) ((Ev.now _).is ?_))
    rw [List.drop_eq_nil_of_le (by omega)]; simp
  | n + 1, i, R, hR, hn => by
    have hi : i < x.f3.length := by omega
    have hat : ((i : Nat) : Int).toNat = i := by omega
    have ih := rSubs_loop x r ws g hl hk n (i + 1) (fun k => R (k + 1)) (fun s hs => (hR s hs).shift) (by omega)
    refine Ev.step (fun k => by rw [grapevineref15_holds_l1]) ?_
    refine Ev.pos (by omega) ?_
    refine Ev.pos (by omega) ?_
    rw [hat, drop_getD x.f3 z25 hi, List.all_cons, List.any_cons]
    refine Ev.bind (hR _ (getD_mem x.f3 z25 hi)).shift ?_
    rw [i64w (by omega), show ((i : Nat) : Int) + 1 = ((i + 1 : Nat) : Int) by omega]
    rcases hk with c | c
    · have e1 : (x.f0 == 7) = true := by rw [c]; rfl
      have e2 : (x.f0 == 8) = false := by rw [c]; rfl
      rw [if_pos c, e1, e2]
      rw [if_pos c] at ih
      cases g (x.f3.getD i z25)
      · exact Ev.pos rfl ((Ev.now _).is (by simp))
      · exact Ev.neg (by simp) (by simpa using ih)
    · have e1 : (x.f0 == 7) = false := by rw [c]; rfl
      have e2 : (x.f0 == 8) = true := by rw [c]; rfl
      rw [if_neg (by omega), e1, e2]
      rw [if_neg (by omega)] at ih
      cases g (x.f3.getD i z25)
      · exact Ev.neg (by simp) (by simpa using ih)
      · exact Ev.pos rfl ((Ev.now _).is (by simp))
theorem rholds_eq (k : Nat) (x : T25) (r : T31) (ws : List T45) : grapevineref15_holds (k + 1) x r ws =
    if x.f0 = 1 ∨ x.f0 = 3 then grapevineref15_Phrase k ws x.f2
    else if x.f0 = 2 then ((grapevineref15_holds_l0 x ws k 0).bind fun os => match os with | Sum.inl r => some r | Sum.inr _ => some false)
    else if x.f0 = 4 then some (r.f0 == x.f1) else if x.f0 = 5 then some (decide (r.f2 ≥ x.f1)) else if x.f0 = 6 then some (decide (r.f2 ≤ x.f1))
    else if x.f0 = 9 then (if 0 ≤ (0 : Int) ∧ (0 : Int) < (x.f3.length : Int) then ((grapevineref15_holds k (x.f3.getD (0 : Int).toNat z25) r ws).bind fun t => some (!t)) else none)
    else ((grapevineref15_holds_l1 x r ws (grapevineref15_holds k) k 0).bind fun os => match os with | Sum.inl r => some r | Sum.inr _ => some (x.f0 == 7)) := by
  rw [grapevineref15_holds]
  simp only [holds_l2', holds_l3']
  have id1 : ∀ {α : Type} (o : Option α), (o.bind fun s => some s) = o := fun o => by cases o <;> rfl
  simp only [id1]
  by_cases h : x.f0 = 1 ∨ x.f0 = 2 ∨ x.f0 = 3 ∨ x.f0 = 4 ∨ x.f0 = 5 ∨ x.f0 = 6 ∨ x.f0 = 7 ∨ x.f0 = 8 ∨ x.f0 = 9
  · rcases h with h | h | h | h | h | h | h | h | h <;> simp only [h] <;> rfl
  · simp only [not_or] at h
    obtain ⟨h1, h2, h3, h4, h5, h6, h7, h8, h9⟩ := h
    simp only [h1, h2, h3, h4, h5, h6, h7, h8, h9, if_false, or_self]
    rfl
theorem rholds_ev (r : T31) (ws : List T45) (hw : ws.length < 4294967296) : ∀ (d : Nat) (x : T25), SmallN d x → goodN d x = true → Ev (fun k => grapevineref15_holds k x r ws) (holdsN r.f0 r.f2 ws d x)
  | 0, x, h, _ => h.elim
  | d + 1, x, ⟨h1, h2, h3, h4⟩, hg => by
    obtain ⟨hs, hgs⟩ := goodN_shape hg
    have ih : ∀ s ∈ x.f3, Ev (fun k => grapevineref15_holds k s r ws) (holdsN r.f0 r.f2 ws d s) := fun s hs => rholds_ev r ws hw d s (h4 s hs) (hgs s hs)
    refine Ev.step (fun k => rholds_eq k x r ws) ?_
    simp only [holdsN]
    refine Ev.ite (fun c => ?_) (fun c1 => ?_)
    · rw [if_pos c]
      exact rPhrase_ev ws x.f2 hw (by omega)
    rw [if_neg c1]
    refine Ev.ite (fun c => ?_) (fun c2 => ?_)
    · rw [if_pos c]
      have := rPref_loop ws hw x (by omega) ws.length 0 (by omega)
      rw [List.drop_zero] at this
      refine Ev.bind this ?_
      unfold prefD
      cases ws.any (fun w => prefB w.f0 (x.f2.getD 0 ⟨#[]⟩))
      · exact Ev.now _
      · exact Ev.now _
    rw [if_neg c2]
    refine Ev.ite (fun c => ?_) (fun c3 => ?_)
    · rw [if_pos c]; exact Ev.now _
    rw [if_neg c3]
    refine Ev.ite (fun c => ?_) (fun c4 => ?_)
    · rw [if_pos c]; exact Ev.now _
    rw [if_neg c4]
    refine Ev.ite (fun c => ?_) (fun c5 => ?_)
    · rw [if_pos c]; exact Ev.now _
    rw [if_neg c5]
    refine Ev.ite (fun c => ?_) (fun c6 => ?_)
    · rw [if_neg (by omega), if_pos c]
      refine Ev.pos (by omega) ?_
      exact Ev.bind (ih _ (getD_mem x.f3 z25 (by omega))) (Ev.now _)
    · have hl := rSubs_loop x r ws (holdsN r.f0 r.f2 ws d) (by omega) (by omega) x.f3.length 0 (fun k => grapevineref15_holds k) ih (by omega)
      rw [List.drop_zero] at hl
      refine Ev.bind hl ?_
      by_cases c : x.f0 = 7
      · rw [if_pos c, if_neg (show ¬ x.f0 = 8 by omega), if_neg (show ¬ x.f0 = 9 by omega)]
        cases x.f3.all (holdsN r.f0 r.f2 ws d)
        · exact Ev.now _
        · exact (Ev.now _).is (by rw [c]; rfl)
      · have c8 : x.f0 = 8 := by omega
        rw [if_neg c, if_pos c8]
        cases x.f3.any (holdsN r.f0 r.f2 ws d)
        · exact (Ev.now _).is (by rw [c8]; rfl)
        · exact Ev.now _

/-! ### records -/
def recB (r : T31) : Bool := decide (0 ≤ r.f0 ∧ r.f0 < 8 ∧ 1 ≤ r.f1 ∧ r.f1 ≤ 1023 ∧ 0 ≤ r.f2 ∧ r.f2 ≤ 1099511627776 ∧ 0 ≤ r.f3 ∧ r.f3 ≤ 65535) && (decide (r.f4.size ≤ 120) && Lib.validD r.f4.data.toList)
theorem recMay_eq {r : T31} (h : r.f4.size ≤ 9223372036854775807) : record_May r = some (recB r) := by
  unfold record_May stamp_May stamp_wall recB
  rw [May_eq h]
  by_cases c : 0 ≤ r.f0 ∧ r.f0 < 8 ∧ 1 ≤ r.f1 ∧ r.f1 ≤ 1023 ∧ 0 ≤ r.f2 ∧ r.f2 ≤ 1099511627776 ∧ 0 ≤ r.f3 ∧ r.f3 ≤ 65535
  · obtain ⟨a, b, e, f, g, i, j, l⟩ := c
    simp [a, b, e, f, g, i, j, l]
  · rw [decide_eq_false c]
    simp only [Bool.false_and]
    by_cases a : r.f0 ≥ 0
    · by_cases b : r.f0 < 8
      · by_cases e : r.f1 ≥ 1
        · by_cases f : r.f1 ≤ 1023
          · by_cases g : r.f2 ≥ 0
            · by_cases i : r.f2 ≤ 1099511627776
              · by_cases j : r.f3 ≥ 0
                · have l : ¬ r.f3 ≤ 65535 := by omega
                  simp [a, b, e, f, g, i, j, l]
                · simp [a, b, e, f, g, i, j]
              · simp [a, b, e, f, g, i]
            · simp [a, b, e, f, g]
          · simp [a, b, e, f]
        · simp [a, b, e]
      · simp [a, b]
    · simp [a]
theorem rrecMay_eq {r : T31} (h : r.f4.size ≤ 9223372036854775807) : grapevineref4_May r = some (recB r) := by
  unfold grapevineref4_May grapevineref4_MayKey grapevineref2_May grapevineref2_in recB
  rw [rMay_eq h]
  by_cases c : 0 ≤ r.f0 ∧ r.f0 < 8 ∧ 1 ≤ r.f1 ∧ r.f1 ≤ 1023 ∧ 0 ≤ r.f2 ∧ r.f2 ≤ 1099511627776 ∧ 0 ≤ r.f3 ∧ r.f3 ≤ 65535
  · obtain ⟨a, b, e, f, g, i, j, l⟩ := c
    simp [a, b, e, f, g, i, j, l]
  · rw [decide_eq_false c]
    simp only [Bool.false_and]
    by_cases a : r.f0 ≥ 0
    · by_cases b : r.f0 < 8
      · by_cases e : r.f1 ≥ 1
        · by_cases f : r.f1 ≤ 1023
          · by_cases g : r.f2 ≥ 0
            · by_cases i : r.f2 ≤ 1099511627776
              · by_cases j : r.f3 ≥ 0
                · have l : ¬ r.f3 ≤ 65535 := by omega
                  simp [a, b, e, f, g, i, j, l]
                · simp [a, b, e, f, g, i, j]
              · simp [a, b, e, f, g, i]
            · simp [a, b, e, f, g]
          · simp [a, b, e, f]
        · simp [a, b, e]
      · simp [a, b]
    · simp [a]
theorem OfD_len (s : ByteArray) : (OfD s).length ≤ 120 := by
  unfold OfD
  split
  · rename_i h
    simp only [Bool.and_eq_true, decide_eq_true_eq] at h
    obtain ⟨rs, hr, rfl⟩ := valid_bs h.2
    rw [runesOf_bs rs hr, Wd_length]
    rw [bs_size] at h
    have := runs_len oth rs []
    have := enc_length rs
    simp [words] at *
    omega
  · simp

/-! ### answers -/
def holdsD (d : Nat) (x : T25) (r : T31) : Bool := mayB d x && (recB r && holdsN r.f0 r.f2 (OfD r.f4) d x)
theorem mayB_good {d : Nat} {x : T25} (h : mayB d x = true) : goodN d x = true := by
  unfold mayB at h
  simp only [Bool.and_eq_true] at h
  exact h.2.2
theorem Holds_ev {d : Nat} (hd : d < 1000) {x : T25} {r : T31} (h : SmallN d x) (hc : cntN d x ≤ 1000) (hr : r.f4.size ≤ 9223372036854775807) : Ev (fun k => deem_Holds k x r) (holdsD d x r) := by
  unfold deem_Holds holdsD
  have hl := OfD_len r.f4
  refine Ev.bind ?_ (Ev.now _)
  refine Ev.bind (askMay_ev hd h hc) ?_
  cases hm : mayB d x
  · exact Ev.neg Bool.false_ne_true ((Ev.now _).is (by simp))
  refine Ev.pos rfl ?_
  rw [recMay_eq hr]
  refine Ev.name fun v hv => ?_
  cases hb : recB r
  · exact Ev.neg (by rw [hv, hb]; simp) ((Ev.now _).is (by simp))
  refine Ev.pos (by rw [hv, hb]) ?_
  refine Ev.bind (Of_ev hr) ?_
  refine Ev.bind (holds_ev ⟨r.f0, r.f1, r.f2, r.f3, r.f4, OfD r.f4⟩ (by show (OfD r.f4).length < _; omega) d x h (mayB_good hm)) ?_
  exact (Ev.now _).is (by simp)
theorem rHolds_ev {d : Nat} (hd : d < 1000) {x : T25} {r : T31} (h : SmallN d x) (hc : cntN d x ≤ 1000) (hr : r.f4.size ≤ 9223372036854775807) : Ev (fun k => grapevineref15_Holds k x r) (holdsD d x r) := by
  unfold grapevineref15_Holds holdsD
  have hl := OfD_len r.f4
  refine Ev.bind ?_ (Ev.now _)
  refine Ev.bind (rAskMay_ev hd h hc) ?_
  cases hm : mayB d x
  · exact Ev.neg Bool.false_ne_true ((Ev.now _).is (by simp))
  refine Ev.pos rfl ?_
  rw [rrecMay_eq hr]
  refine Ev.name fun v hv => ?_
  cases hb : recB r
  · exact Ev.neg (by rw [hv, hb]; simp) ((Ev.now _).is (by simp))
  refine Ev.pos (by rw [hv, hb]) ?_
  refine Ev.bind (rOf_ev hr) ?_
  refine Ev.bind (rholds_ev r (OfD r.f4) (by omega) d x h (mayB_good hm)) ?_
  exact (Ev.now _).is (by simp)

/-! ### what every program answers that is one -/
theorem small_leaf {x : T25} (h1 : x.f2.length ≤ 30) (h2 : ∀ w ∈ x.f2, w.size ≤ 100) (h3 : x.f3 = []) : SmallN 1 x ∧ cntN 1 x ≤ 1000 := by
  refine ⟨⟨h1, h2, by rw [h3]; simp, by rw [h3]; simp⟩, ?_⟩
  simp [cntN, h3]
theorem awake_ev : Ev (fun k => grapevinelaw15_awake k) true := by
  unfold grapevinelaw15_awake grapevinelaw15_rec
  refine Ev.bind ?_ (Ev.now _)
  have s1 := small_leaf (x := (⟨3, 0, ([(⟨#[116, 111]⟩ : ByteArray), (⟨#[98, 101]⟩ : ByteArray)] : List ByteArray), ([] : List T25)⟩ : T25)) (by decide) (by decide) rfl
  have s2 := small_leaf (x := (⟨4, 1, ([] : List ByteArray), ([] : List T25)⟩ : T25)) (by decide) (by decide) rfl
  refine Ev.name fun v hv => ?_
  rw [hv]
  refine Ev.bind (Holds_ev (d := 1) (by decide) s1.1 s1.2 (by decide)) ?_
  refine Ev.pos (by decide +kernel) ?_
  refine Ev.name fun v hv => ?_
  rw [hv]
  refine Ev.bind (Holds_ev (d := 1) (by decide) s1.1 s1.2 (by decide)) ?_
  refine Ev.pos (by decide +kernel) ?_
  refine Ev.name fun v hv => ?_
  rw [hv]
  refine Ev.bind (Holds_ev (d := 1) (by decide) s2.1 s2.2 (by decide)) ?_
  refine Ev.pos (by decide +kernel) ?_
  refine Ev.bind (Of_ev (by decide)) ?_
  refine Ev.bind (Phrase_ev _ _ (by have := OfD_len (⟨#[97, 32, 98]⟩ : ByteArray); omega) (by decide)) ?_
  refine Ev.pos (by decide +kernel) ?_
  refine Ev.bind (Of_ev (by decide)) ?_
  refine Ev.bind (Phrase_ev _ _ (by have := OfD_len (⟨#[97, 32, 98]⟩ : ByteArray); omega) (by decide)) ?_
  exact (Ev.now _).is (by decide +kernel)
end Go.Proofs.YtbphlohiealbeaaDoor.Pure
