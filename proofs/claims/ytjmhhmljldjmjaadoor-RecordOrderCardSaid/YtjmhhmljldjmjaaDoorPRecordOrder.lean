/- The plain law of RecordOrder. -/
import Derived.Test.YtjmhhmljldjmjaaDoorLRecordOrder
import Derived.Test.YtjmhhmljldjmjaaDoorPRec
import Derived.Test.YtjmhhmljldjmjaaDoorPSort3
namespace Go.Proofs.YtjmhhmljldjmjaaDoor.Pure
open Go Go.Gg Go.Gp Gf
set_option linter.unusedVariables false
set_option linter.unusedSimpArgs false
theorem count_take (l : List T27) (x : T27) {i : Nat} (h : i < l.length) : (l.take (i + 1)).count x = (l.take i).count x + if l.getD i z27 = x then 1 else 0 := by
  rw [take_getD l z27 h, List.count_append, List.count_singleton]
  by_cases e : l.getD i z27 = x
  · rw [if_pos e, e]; simp
  · rw [if_neg e, if_neg (by simpa using e)]
theorem count_le' (l : List T27) (x : T27) (i : Nat) : (l.take i).count x ≤ i := by
  have := List.count_le_length (a := x) (l := l.take i)
  rw [List.length_take] at this; omega
theorem counts_ev (l t : List T27) (y : Nat) (hl : l.length = t.length) (hy : y < t.length) (hb : t.length ≤ 1073741824) :
    Ev (fun k => grapevinelaw4_RecordOrder_l1 l t (y : Int) k 0 0) ((t.count (t.getD y z27) : Int) - (l.count (t.getD y z27) : Int)) := by
  have key := Ev.count (F := fun k s i => grapevinelaw4_RecordOrder_l1 l t (y : Int) k s i) (r := (t.count (t.getD y z27) : Int) - (l.count (t.getD y z27) : Int)) (fun i => ((t.take i).count (t.getD y z27) : Int) - ((l.take i).count (t.getD y z27) : Int)) t.length (fun i hi r H => by
    refine Ev.step (fun k => ?_) H
    have c1 := count_le' t (t.getD y z27) i
    have c2 := count_le' l (t.getD y z27) i
    have hp : IntKind.i64.wrap ((i : Int) + 1) = ((i + 1 : Nat) : Int) := by rw [i64w (by omega)]; omega
    rw [grapevinelaw4_RecordOrder_l1, if_pos (show (i : Int) < (t.length : Int) by omega), if_pos (show 0 ≤ (i : Int) ∧ (i : Int) < (t.length : Int) by omega), if_pos (show 0 ≤ (y : Int) ∧ (y : Int) < (t.length : Int) by omega), if_pos (show 0 ≤ (i : Int) ∧ (i : Int) < (l.length : Int) by omega), hp]
    have hyy : 0 ≤ (y : Int) ∧ (y : Int) < (t.length : Int) := by omega
    have hil : 0 ≤ (i : Int) ∧ (i : Int) < (l.length : Int) := by omega
    simp only [Int.toNat_natCast, if_pos hyy, if_pos hil]
    rw [count_take t (t.getD y z27) hi, count_take l (t.getD y z27) (by omega)]
    generalize (List.count (t.getD y z27) (List.take i t)) = u at c1 ⊢
    generalize (List.count (t.getD y z27) (List.take i l)) = v at c2 ⊢
    have w1 : IntKind.i64.wrap ((u : Int) - (v : Int) + 1) = (u : Int) - v + 1 := i64w (by omega)
    have w2 : IntKind.i64.wrap ((u : Int) - (v : Int) - 1) = (u : Int) - v - 1 := i64w (by omega)
    have w3 : IntKind.i64.wrap ((u : Int) - (v : Int) + 1 - 1) = (u : Int) - v := by rw [i64w (by omega)]; omega
    simp only [w1, w2, w3]
    by_cases e1 : t.getD i z27 = t.getD y z27 <;> by_cases e2 : l.getD i z27 = t.getD y z27
    · simp only [if_pos e1, if_pos e2]; rw [show ((u + 1 : Nat) : Int) - ((v + 1 : Nat) : Int) = (u : Int) - v by omega]
    · simp only [if_pos e1, if_neg e2]; rw [show ((u + 1 : Nat) : Int) - ((v + 0 : Nat) : Int) = (u : Int) - v + 1 by omega]
    · simp only [if_neg e1, if_pos e2]; rw [show ((u + 0 : Nat) : Int) - ((v + 1 : Nat) : Int) = (u : Int) - v - 1 by omega]
    · simp only [if_neg e1, if_neg e2]; rw [show ((u + 0 : Nat) : Int) - ((v + 0 : Nat) : Int) = (u : Int) - v by omega]) (by
    refine Ev.step (g := fun _ => some _) (fun k => ?_) (Ev.now _)
    rw [grapevinelaw4_RecordOrder_l1, if_neg (by omega), List.take_of_length_le (Nat.le_refl _), List.take_of_length_le (by omega)])
  simpa using key
theorem same_count {l t : List T27} (h : SE ltr l t) (x : T27) : l.count x = t.count x := by
  have := SE.len ltr_swo h (fun y => y == x) (fun a b ha hb => by
    have ha := eq_of_beq ha; have hb := eq_of_beq hb
    subst ha; subst hb; exact ltr_swo.eqv_refl _)
  rw [List.count_eq_length_filter, List.count_eq_length_filter]; exact this
theorem rises_ev (l t : List T27) (hs : Srt ltr t) (hse : SE ltr l t) (hb : t.length < 1073741824) : Ev (fun k => grapevinelaw4_RecordOrder_l0 l t k 0) (Sum.inr ()) := by
  have hlen := SE.length hse
  have := Ev.count (σ := Unit) (F := fun k _ i => grapevinelaw4_RecordOrder_l0 l t k i) (r := Sum.inr ()) (fun _ => ()) t.length (fun i hi r H => by
    refine Ev.step (g := fun k => (grapevinelaw4_RecordOrder_l1 l t (i : Int) k 0 0).bind _) (fun k => by rw [grapevinelaw4_RecordOrder_l0, if_pos (by omega)]) (Ev.bind (counts_ev l t i hlen hi (by omega)) ?_)
    rw [same_count hse, Int.sub_self]
    refine Ev.bind (b := false) ((Ev.now _).congr fun k => ?_) (Ev.neg (by simp) ?_)
    · rw [if_neg (by simp)]
      by_cases h0 : i = 0
      · subst h0; rfl
      · have e1 : IntKind.i64.wrap ((i : Int) - 1) = ((i - 1 : Nat) : Int) := by rw [i64w (by omega)]; omega
        rw [if_pos (by omega), e1, if_pos (by omega), if_pos (by omega)]
        simp only [Int.toNat_natCast, Less_some, Option.bind_some]
        rw [srt_getD hs (by omega) hi]
    · rw [i64w (by omega)]; exact H) (by
    refine Ev.step (g := fun _ => some (Sum.inr ())) (fun k => ?_) (Ev.now _)
    rw [grapevinelaw4_RecordOrder_l0, if_neg (by omega)])
  exact this
theorem RecordOrder : RecordOrder_Pure := by
  intro a b c l wa wb wc wl
  refine Ev.rounds ?_
  unfold grapevinelaw4_RecordOrder
  obtain ⟨g1, hg1, _⟩ := Great_ev [a, b, c] 3 (by omega)
  obtain ⟨g2, hg2, hgl⟩ := Great_ev l 30 (by omega)
  refine Ev.bind (b := if g1 = true then true else g2) (Ev.bind hg1 ?_) ?_
  · by_cases h : g1 = true
    · rw [if_pos h]; exact Ev.pos h (Ev.now _)
    · rw [if_neg h]; exact Ev.neg h (Ev.bind hg2 (Ev.now _))
  refine Ev.ite (fun _ => Ev.bind awake_ev (Ev.now _)) (fun hne => ?_)
  have hl : l.length ≤ 30 := by
    by_cases h : g1 = true
    · exact absurd (by rw [if_pos h]) hne
    · rw [if_neg h] at hne; have := hgl (by simpa using hne); omega
  obtain ⟨t, h1, h2, h3⟩ := Sort_ev l (by omega)
  have htl := SE.length h2
  obtain ⟨u, k1, k2, k3⟩ := Sort_ev t (by omega)
  obtain rfl := Srt.uniq ltr_swo h1 k1 k2
  simp only [Less_some, Option.bind_some]
  have hun : (ltr a b = true ∨ ltr b a = true) ↔ ¬ ((⟨a.f0, a.f1⟩ : T23) = ⟨b.f0, b.f1⟩ ∧ (⟨a.f2, a.f3⟩ : T25) = ⟨b.f2, b.f3⟩) := by
    simp only [ltr, decide_eq_true_eq, T23.mk.injEq, T25.mk.injEq]; omega
  have hboth : ltr a b = true → ltr b a = false := fun h => ltr_swo.asym h
  have htr : ltr a b = true → ltr b c = true → ltr a c = true := fun h h' => ltr_swo.tr _ _ _ h h'
  refine Ev.bind (b := false) ((Ev.now _).congr fun k => ?_) (Ev.neg (by simp) ?_)
  · cases e1 : ltr a b
    · cases e2 : ltr b a
      · have h5 : (⟨a.f0, a.f1⟩ : T23) = ⟨b.f0, b.f1⟩ ∧ (⟨a.f2, a.f3⟩ : T25) = ⟨b.f2, b.f3⟩ := Classical.byContradiction fun h => by have := hun.2 h; simp [e1, e2] at this
        simp [h5.1, h5.2]
      · have h5 := hun.1 (.inr e2)
        by_cases h6 : (⟨a.f0, a.f1⟩ : T23) = ⟨b.f0, b.f1⟩
        · have h7 : ¬ (⟨a.f2, a.f3⟩ : T25) = ⟨b.f2, b.f3⟩ := fun h => h5 ⟨h6, h⟩
          simp [h6, h7]
        · simp [h6]
    · have e2 := hboth e1
      have h5 := hun.1 (.inl e1)
      have h8 : (ltr b c = true → ltr a c = true) := htr e1
      by_cases h6 : (⟨a.f0, a.f1⟩ : T23) = ⟨b.f0, b.f1⟩
      · have h7 : ¬ (⟨a.f2, a.f3⟩ : T25) = ⟨b.f2, b.f3⟩ := fun h => h5 ⟨h6, h⟩
        simp only [e2, h6, h7, decide_false, if_true]
        cases e3 : ltr b c
        · simp
        · simp [h8 e3]
      · simp only [e2, h6, if_true, if_false]
        cases e3 : ltr b c
        · simp
        · simp [h8 e3]
  · refine Ev.bind h3 (Ev.neg (by omega) (Ev.bind (rises_ev l t h1 h2 (by omega)) ?_))
    exact Ev.bind (b := true) (Ev.bind k3 (Ev.bind ((SameRecords_ev t t (by omega)).is (decide_eq_true rfl)) (Ev.pos rfl (Ev.bind awake_ev (Ev.now _))))) (Ev.now _)
end Go.Proofs.YtjmhhmljldjmjaaDoor.Pure
