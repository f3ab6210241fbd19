/- The plain law of DeemFilters. -/
import Derived.Test.YtbphlohiealbeaaDoorLDeemFilters
import Derived.Test.YtbphlohiealbeaaDoorPDeem3
namespace Go.Proofs.YtbphlohiealbeaaDoor.Pure
open Go Go.Gg Go.Gp Gf
set_option linter.unusedVariables false
set_option linter.unusedSimpArgs false
theorem Low_eq {a b : Int} (ha : -9223372036854775808 ≤ a ∧ a < 9223372036854775808) (hb : 0 < b ∧ b < 1000) : ∃ v, grapevinelaw0_Low a b = some v ∧ 0 ≤ v ∧ v < b := by
  unfold grapevinelaw0_Low
  rw [u64w (by omega : 0 ≤ b ∧ b < 18446744073709551616), if_pos (by omega)]
  have h0 : 0 ≤ IntKind.u64.wrap a := by rw [IntKind.wrap_u64]; omega
  generalize IntKind.u64.wrap a = u at h0
  have h1 := Int.tmod_nonneg b h0
  have h2 := Int.tmod_lt_of_pos u hb.1
  exact ⟨_, rfl, by rw [i64w (by omega)]; omega, by rw [i64w (by omega)]; omega⟩
def leaf (c t : Int) : T25 := ⟨c, t, [], []⟩
theorem leaf_small (d : Nat) (c t : Int) : SmallN (d + 1) (leaf c t) ∧ cntN (d + 1) (leaf c t) = 1 := by simp [SmallN, cntN, leaf]
theorem leaf_may (d : Nat) {c t : Int} (h : c = 4 ∧ 0 ≤ t ∧ t ≤ 7 ∨ (c = 5 ∨ c = 6) ∧ 0 ≤ t ∧ t ≤ 1099511627776) : mayB (d + 1) (leaf c t) = true ∧ goodN (d + 1) (leaf c t) = true ∧ deepN (d + 1) (leaf c t) = 1 ∧ termsN (d + 1) (leaf c t) = 1 := by
  have hs : shapeB (leaf c t) = true := decide_eq_true (by rcases h with ⟨rfl, h⟩ | ⟨rfl | rfl, h⟩ <;> simp [leaf] <;> omega)
  have hg : goodN (d + 1) (leaf c t) = true := good_nil hs rfl rfl
  have hd : deepN (d + 1) (leaf c t) = 1 := by simp [deepN, leaf]
  have ht : termsN (d + 1) (leaf c t) = 1 := by simp [termsN, leaf, mx]
  refine ⟨?_, hg, hd, ht⟩
  unfold mayB
  rw [hg, hd, ht]; rfl
def pair (c : Int) (a b : T25) : T25 := ⟨c, 0, [], [a, b]⟩
theorem pair_small {d : Nat} {c : Int} {a b : T25} (ha : SmallN d a) (hb : SmallN d b) : SmallN (d + 1) (pair c a b) ∧ cntN (d + 1) (pair c a b) = 1 + (cntN d a + cntN d b) := by simp [SmallN, cntN, pair, ha, hb]
theorem pair_good {d : Nat} {c : Int} {a b : T25} (h : c = 7 ∨ c = 8) : goodN (d + 1) (pair c a b) = (goodN d a && goodN d b) := by
  have hs : shapeB (pair c a b) = true := decide_eq_true (by rcases h with rfl | rfl <;> simp [pair])
  rw [good_subs hs rfl]
  simp [pair]
theorem pair_and (o wl : Int) (ws : List T45) (d : Nat) (a b : T25) : holdsN o wl ws (d + 1) (pair 7 a b) = (holdsN o wl ws d a && (holdsN o wl ws d b && true)) := rfl
theorem pair_or (o wl : Int) (ws : List T45) (d : Nat) (a b : T25) : holdsN o wl ws (d + 1) (pair 8 a b) = (holdsN o wl ws d a || (holdsN o wl ws d b || false)) := rfl
theorem DeemFilters : DeemFilters_Pure := by
  intro r o w hr ho hw
  have hrs : r.f4.size ≤ 9223372036854775807 := hr.2.2.2.2
  apply Ev.rounds
  unfold grapevinelaw15_DeemFilters
  rw [recMay_eq hrs]
  have yes : ∀ {f : Nat → Option Bool}, Ev (fun k => if true = true then ((grapevinelaw15_awake k).bind fun t => some t) else f k) true := fun {f} => Ev.pos rfl (Ev.bind awake_ev (Ev.now _))
  by_cases c1 : (r.f4.size : Int) > 300
  · exact Ev.bind (b := true) (Ev.pos c1 (Ev.now _)) yes
  cases hrb : recB r
  · exact Ev.bind (b := true) (Ev.neg c1 (Ev.name fun v hv => (Ev.now _).is (by rw [hv]; rfl))) yes
  refine Ev.bind (b := false) (Ev.neg c1 (Ev.name fun v hv => (Ev.now _).is (by rw [hv]; rfl))) ?_
  refine Ev.neg Bool.false_ne_true ?_
  obtain ⟨t, ht, t0, t8⟩ := Low_eq (wf_i64 ho) (show (0 : Int) < 8 ∧ (8 : Int) < 1000 by omega)
  obtain ⟨s, hs, s0, s1⟩ := Low_eq (wf_i64 hw) (show (0 : Int) < 100 ∧ (100 : Int) < 1000 by omega)
  rw [ht, hs]
  refine Ev.name fun t' ht' => ?_
  refine Ev.name fun s' hs' => ?_
  rw [ht', hs']
  refine Ev.bind (b := true) ?_ (Ev.now _)
  have e4 : holdsD 1 (leaf 4 t) r = (r.f0 == t) := by
    unfold holdsD; rw [(leaf_may 0 (by omega)).1, hrb]; simp [holdsN, leaf]
  have e5 : ∀ d, holdsN r.f0 r.f2 (OfD r.f4) (d + 1) (leaf 5 s) = decide (r.f2 ≥ s) := fun d => rfl
  have e6 : ∀ d, holdsN r.f0 r.f2 (OfD r.f4) (d + 1) (leaf 6 s) = decide (r.f2 ≤ s) := fun d => rfl
  have m5 := fun d => leaf_may d (c := 5) (t := s) (by omega)
  have m6 := fun d => leaf_may d (c := 6) (t := s) (by omega)
  have f5 : holdsD 1 (leaf 5 s) r = decide (r.f2 ≥ s) := by unfold holdsD; rw [(m5 0).1, hrb, e5]; rfl
  have f6 : holdsD 1 (leaf 6 s) r = decide (r.f2 ≤ s) := by unfold holdsD; rw [(m6 0).1, hrb, e6]; rfl
  have mp : ∀ c, c = 7 ∨ c = 8 → mayB 2 (pair c (leaf 5 s) (leaf 6 s)) = true := by
    intro c hc
    unfold mayB
    rw [pair_good hc, (m5 0).2.1, (m6 0).2.1]
    have hd : deepN 2 (pair c (leaf 5 s) (leaf 6 s)) = 2 := by simp [deepN, pair, leaf, mx]
    have ht : termsN 2 (pair c (leaf 5 s) (leaf 6 s)) = 2 := by simp [termsN, pair, leaf, mx]
    rw [hd, ht]; rfl
  have f7 : holdsD 2 (pair 7 (leaf 5 s) (leaf 6 s)) r = (r.f2 == s) := by
    unfold holdsD
    rw [mp 7 (by omega), hrb]
    rw [pair_and, e5 0, e6 0, Bool.and_true, Bool.true_and, Bool.true_and, ← Bool.decide_and, Bool.eq_iff_iff, decide_eq_true_eq, beq_iff_eq]
    omega
  have f8 : holdsD 2 (pair 8 (leaf 5 s) (leaf 6 s)) r = true := by
    unfold holdsD
    rw [mp 8 (by omega), hrb]
    rw [pair_or, e5 0, e6 0, Bool.or_false, Bool.true_and, Bool.true_and, ← Bool.decide_or]
    refine decide_eq_true ?_
    omega
  have l4 := leaf_small 0 4 t
  have l5 := leaf_small 0 5 s
  have l6 := leaf_small 0 6 s
  have p7 := pair_small (c := 7) l5.1 l6.1
  have p8 := pair_small (c := 8) l5.1 l6.1
  have c4 : cntN 1 (leaf 4 t) = 1 := l4.2
  have c5 : cntN 1 (leaf 5 s) = 1 := l5.2
  have c6 : cntN 1 (leaf 6 s) = 1 := l6.2
  have c7 : cntN 2 (pair 7 (leaf 5 s) (leaf 6 s)) = 1 + (cntN 1 (leaf 5 s) + cntN 1 (leaf 6 s)) := p7.2
  have c8 : cntN 2 (pair 8 (leaf 5 s) (leaf 6 s)) = 1 + (cntN 1 (leaf 5 s) + cntN 1 (leaf 6 s)) := p8.2
  have H4 : Ev (fun k => deem_Holds k (leaf 4 t) r) (r.f0 == t) := by have := Holds_ev (d := 1) (by decide) l4.1 (by omega) hrs; rwa [e4] at this
  have H5 : Ev (fun k => deem_Holds k (leaf 5 s) r) (decide (r.f2 ≥ s)) := by have := Holds_ev (d := 1) (by decide) l5.1 (by omega) hrs; rwa [f5] at this
  have H6 : Ev (fun k => deem_Holds k (leaf 6 s) r) (decide (r.f2 ≤ s)) := by have := Holds_ev (d := 1) (by decide) l6.1 (by omega) hrs; rwa [f6] at this
  have H7 : Ev (fun k => deem_Holds k (pair 7 (leaf 5 s) (leaf 6 s)) r) (r.f2 == s) := by have := Holds_ev (d := 2) (by decide) p7.1 (by omega) hrs; rwa [f7] at this
  have H8 : Ev (fun k => deem_Holds k (pair 8 (leaf 5 s) (leaf 6 s)) r) true := by have := Holds_ev (d := 2) (by decide) p8.1 (by omega) hrs; rwa [f8] at this
  refine Ev.bind H4 ?_
  refine Ev.pos (by simp) ?_
  refine Ev.bind H5 ?_
  refine Ev.pos (by simp) ?_
  refine Ev.bind H6 ?_
  refine Ev.pos (by simp) ?_
  refine Ev.bind H7 ?_
  refine Ev.pos (by simp) ?_
  refine Ev.bind H8 ?_
  refine Ev.pos rfl ?_
  exact Ev.bind awake_ev (Ev.now _)
end Go.Proofs.YtbphlohiealbeaaDoor.Pure
