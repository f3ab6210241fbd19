/- The document's tree, and what both begin with. -/
import Derived.Test.YtajhihpaccggdaaDoorF1
import Derived.Test.YtajhihpaccggdaaDoorF2
import Derived.Test.YtajhihpaccggdaaDoorF3
import Derived.Test.YtajhihpaccggdaaDoorF4
import Derived.Test.YtajhihpaccggdaaDoorPTree2
namespace Go.Proofs.YtajhihpaccggdaaDoor.Pure
open Go Go.Gg Go.Gp Gf
set_option linter.unusedVariables false
set_option linter.unusedSimpArgs false

def fnd (L : List T36) (k : T32) : Int := ((L.findIdx? fun r => decide (key r = k)).map Int.ofNat).getD (-1)
theorem fnd_some {L : List T36} {k : T32} {q : Nat} (h : (L.findIdx? fun r => decide (key r = k)) = some q) : q < L.length ∧ key (L.getD q z36) = k ∧ fnd L k = (q : Int) ∧ (L.find? fun r => decide (key r = k)) = some (L.getD q z36) := by
  have h1 := List.findIdx?_eq_some_iff_getElem.1 h
  obtain ⟨hq, h2, h3⟩ := h1
  refine ⟨hq, by rw [getD_eq L z36 hq]; exact of_decide_eq_true h2, by rw [fnd, h]; rfl, ?_⟩
  rw [List.find?_eq_some_iff_getElem, getD_eq L z36 hq]
  exact ⟨h2, q, hq, rfl, fun j hj => by have := h3 j hj; simpa using this⟩
theorem fnd_none {L : List T36} {k : T32} (h : (L.findIdx? fun r => decide (key r = k)) = none) : fnd L k = -1 ∧ k ∉ L.map key := by
  refine ⟨by rw [fnd, h]; rfl, fun hm => ?_⟩
  obtain ⟨r, hr, e⟩ := List.mem_map.1 hm
  have := List.findIdx?_eq_none_iff.1 h r hr
  rw [decide_eq_true e] at this; cases this
theorem fnd_neg {L : List T36} {k : T32} : fnd L k < 0 ↔ k ∉ L.map key := by
  cases h : (L.findIdx? fun r => decide (key r = k)) with
  | none => obtain ⟨h1, h2⟩ := fnd_none h; rw [h1]; exact ⟨fun _ => h2, fun _ => by omega⟩
  | some q =>
    obtain ⟨h1, h2, h3, _⟩ := fnd_some h
    rw [h3]
    exact ⟨fun h => by omega, fun h => absurd (h2 ▸ List.mem_map.2 ⟨_, getD_mem L z36 h1, rfl⟩) h⟩
theorem Find_ev (L : List T36) (hl : L.length ≤ 1000000) (k : T32) : Ev (fun f => grapevineref12_Tree_Find f ⟨L⟩ k) (fnd L k) := by
  obtain ⟨r, hr, hE⟩ := Ev.loop (F := fun f (s : Int) => grapevineref12_Tree_Find_l0 ⟨L⟩ k f s) (fun s n => 0 ≤ s ∧ s + n = L.length ∧ ∀ j, j < s.toNat → key (L.getD j z36) ≠ k) (fun r => r = (match (L.findIdx? fun r => decide (key r = k)) with | some q => Sum.inl (q : Int) | none => Sum.inr ())) (fun s n hI => by
    obtain ⟨h0, hn, hall⟩ := hI
    by_cases h1 : s < (L.length : Int)
    · by_cases h2 : key (L.getD s.toNat z36) = k
      · refine .inl ⟨Sum.inl s, ?_, Ev.step (g := fun _ => some (Sum.inl s)) (fun f => ?_) (Ev.now _)⟩
        · have : (L.findIdx? fun r => decide (key r = k)) = some s.toNat := by
            rw [List.findIdx?_eq_some_iff_getElem]
            refine ⟨by omega, by rw [← getD_eq L z36 (by omega)]; exact decide_eq_true h2, fun j hj => ?_⟩
            have := hall j hj
            rw [getD_eq L z36 (by omega)] at this
            simpa using this
          rw [this]; simp only; congr 1; omega
        · rw [grapevineref12_Tree_Find_l0, if_pos h1, if_pos ⟨h0, h1⟩]
          exact if_pos h2
      · refine .inr ⟨s + 1, n - 1, by omega, ⟨by omega, by omega, fun j hj => ?_⟩, fun r H => Ev.step (fun f => ?_) H⟩
        · by_cases e : j = s.toNat
          · rw [e]; exact h2
          · exact hall j (by omega)
        · rw [grapevineref12_Tree_Find_l0, if_pos h1, if_pos ⟨h0, h1⟩, i64w (by omega)]
          exact if_neg h2
    · refine .inl ⟨Sum.inr (), ?_, Ev.step (g := fun _ => some (Sum.inr ())) (fun f => ?_) (Ev.now _)⟩
      · have : (L.findIdx? fun r => decide (key r = k)) = none := by
          rw [List.findIdx?_eq_none_iff]
          intro r hr
          obtain ⟨j, hj, e⟩ := List.mem_iff_getElem.1 hr
          have := hall j (by omega)
          rw [getD_eq L z36 hj, e] at this
          exact decide_eq_false this
        rw [this]
      · rw [grapevineref12_Tree_Find_l0, if_neg h1]) 0 L.length ⟨by omega, by omega, fun j hj => absurd hj (by simp)⟩
  refine Ev.bind hE ?_
  rw [hr]
  cases h : (L.findIdx? fun r => decide (key r = k)) with
  | none => exact (Ev.now _).is (fnd_none h).1.symm
  | some q => exact (Ev.now _).is (fnd_some h).2.2.1.symm
theorem Put_r_ev (L : List T36) (l : List T36) (hl : L.length + l.length ≤ 1000000) :
    Ev (fun k => grapevineref12_Tree_Put k ⟨L⟩ l) ((((l.foldl rput L).length : Int) - (L.length : Int)), ⟨l.foldl rput L⟩) := by
  have := Ev.count (F := fun k (s : Int × T30) i => grapevineref12_Tree_Put_l0 l k s.1 i s.2) (r := ((((l.foldl rput L).length : Int) - (L.length : Int)), (⟨l.foldl rput L⟩ : T30))) (fun i => (((((l.take i).foldl rput L).length : Int) - (L.length : Int)), (⟨(l.take i).foldl rput L⟩ : T30))) l.length (fun i hi r H => by
    obtain ⟨x, hx⟩ : ∃ x, x = l.getD i z36 := ⟨_, rfl⟩
    have hpl := put_many (l.take i) L
    rw [List.length_take] at hpl
    simp only [foldl_take rput L l z36 hi, ← hx] at H
    obtain ⟨L', hL'⟩ : ∃ L', L' = (l.take i).foldl rput L := ⟨_, rfl⟩
    simp only [← hL'] at hpl H ⊢
    have hfin : Ev (fun k => (if 0 ≤ (i : Int) ∧ (i : Int) < (l.length : Int) then (grapevineref4_May x).bind fun t12 => if t12 = true then if 0 ≤ (i : Int) ∧ (i : Int) < (l.length : Int) then (grapevineref12_Tree_Find k ⟨L'⟩ (key x)).bind fun t18 => some (decide (t18 < 0)) else none else some false else none)) (decide (Mayr x ∧ key x ∉ L'.map key)) := by
      refine Ev.pos (by omega) ?_
      simp only [rMay_some, Option.bind_some]
      by_cases hm : Mayr x
      · rw [decide_eq_true hm]
        refine Ev.pos rfl (Ev.pos (by omega) (Ev.bind (Find_ev L' (by omega) (key x)) ((Ev.now _).is ?_)))
        rw [decide_eq_decide, fnd_neg]; simp [hm]
      · rw [decide_eq_false hm]
        exact Ev.neg (by simp) ((Ev.now _).is (by simp [hm]))
    refine Ev.step (fun k => by rw [grapevineref12_Tree_Put_l0, if_pos (by omega), Int.toNat_natCast, ← hx]; rfl) (Ev.bind hfin ?_)
    by_cases hp : Mayr x ∧ key x ∉ L'.map key
    · have e2 : rput L' x = L' ++ [x] := if_pos hp
      rw [e2] at H
      refine Ev.pos (decide_eq_true hp) (Ev.bind (b := ⟨L' ++ [x]⟩) (Ev.pos (by omega) (Ev.pos (by simp; omega) (Ev.pos (by simp; omega) ((Ev.now _).is (by simp))))) ?_)
      rw [i64w (x := (i : Int) + 1) (by omega), i64w (x := (L'.length : Int) - (L.length : Int) + 1) (by omega)]
      rw [List.length_append, List.length_singleton] at H
      rw [show ((L'.length : Int) - (L.length : Int)) + 1 = ((L'.length + 1 : Nat) : Int) - (L.length : Int) by omega]
      exact H
    · have e2 : rput L' x = L' := if_neg hp
      rw [e2] at H
      refine Ev.neg (by rw [decide_eq_false hp]; simp) ?_
      rw [i64w (x := (i : Int) + 1) (by omega)]
      exact H) (by
    refine Ev.step (g := fun _ => some _) (fun k => ?_) (Ev.now _)
    rw [grapevineref12_Tree_Put_l0, if_neg (by omega), List.take_of_length_le (Nat.le_refl _)])
  simp only [List.take_zero, List.foldl_nil, Int.sub_self] at this
  exact Ev.bind this (Ev.now _)
theorem rdrop_at {L : List T36} (hn : (L.map key).Nodup) {q : Nat} (hq : q < L.length) : L.take q ++ L.drop (q + 1) = rdrop L (key (L.getD q z36)) := by
  have e := parts_getD L z36 hq
  obtain ⟨x, hx⟩ : ∃ x, x = L.getD q z36 := ⟨_, rfl⟩
  rw [← hx] at e ⊢
  have hn' := hn
  rw [e, List.map_append, List.map_cons] at hn'
  obtain ⟨n1, n2, n3⟩ := List.nodup_append.1 hn'
  have n4 := (List.nodup_cons.1 n2).1
  have f1 : (L.take q).filter (fun r => decide (key r ≠ key x)) = L.take q := List.filter_eq_self.2 fun y hy => by
    have := n3 (key y) (List.mem_map.2 ⟨y, hy, rfl⟩) (key x) (by simp)
    simpa using this
  have f2 : (L.drop (q + 1)).filter (fun r => decide (key r ≠ key x)) = L.drop (q + 1) := List.filter_eq_self.2 fun y hy => by
    have : key y ≠ key x := fun e => n4 (e ▸ List.mem_map.2 ⟨y, hy, rfl⟩)
    simpa using this
  conv => rhs; rw [rdrop, e]
  rw [List.filter_append, List.filter_cons, f1, f2, if_neg (by simp)]
theorem drops_len (l : List T32) (L : List T36) : (l.foldl rdrop L).length ≤ L.length := by
  induction l generalizing L with
  | nil => exact Nat.le_refl _
  | cons x l ih => exact Nat.le_trans (ih _) (rdrop_len L x)
theorem drops_nodup (l : List T32) {L : List T36} (h : (L.map key).Nodup) : ((l.foldl rdrop L).map key).Nodup := by
  induction l generalizing L with
  | nil => exact h
  | cons x l ih => exact ih (h.sublist ((rdrop_sub L x).map _))
theorem Drop_r_ev {L : List T36} (hn : (L.map key).Nodup) (l : List T32) (hl : L.length ≤ 1000000) (hll : l.length ≤ 1000000) :
    Ev (fun k => grapevineref12_Tree_Drop k ⟨L⟩ l) (((L.length : Int) - ((l.foldl rdrop L).length : Int)), ⟨l.foldl rdrop L⟩) := by
  have := Ev.count (F := fun k (s : Int × T30) i => grapevineref12_Tree_Drop_l0 l k s.1 i s.2) (r := (((L.length : Int) - ((l.foldl rdrop L).length : Int)), (⟨l.foldl rdrop L⟩ : T30))) (fun i => (((L.length : Int) - (((l.take i).foldl rdrop L).length : Int)), (⟨(l.take i).foldl rdrop L⟩ : T30))) l.length (fun i hi r H => by
    obtain ⟨x, hx⟩ : ∃ x, x = l.getD i z32 := ⟨_, rfl⟩
    have hpl := drops_len (l.take i) L
    have hnd := drops_nodup (l.take i) hn
    simp only [foldl_take rdrop L l z32 hi, ← hx] at H
    obtain ⟨L', hL'⟩ : ∃ L', L' = (l.take i).foldl rdrop L := ⟨_, rfl⟩
    simp only [← hL'] at hpl H hnd ⊢
    refine Ev.step (fun k => by rw [grapevineref12_Tree_Drop_l0, if_pos (by omega), if_pos (by omega), Int.toNat_natCast, ← hx]) (Ev.bind (Find_ev L' (by omega) x) ?_)
    cases h : (L'.findIdx? fun r => decide (key r = x)) with
    | none =>
      obtain ⟨h1, h2⟩ := fnd_none h
      rw [rdrop_none h2] at H
      refine Ev.neg (by omega) ?_
      rw [i64w (x := (i : Int) + 1) (by omega)]
      exact H
    | some q =>
      obtain ⟨h1, h2, h3, _⟩ := fnd_some h
      have e := rdrop_at hnd h1
      rw [h2] at e
      have el := congrArg List.length e
      rw [List.length_append, List.length_take, List.length_drop] at el
      rw [h3]
      have e1 : IntKind.i64.wrap ((q : Int) + 1) = ((q + 1 : Nat) : Int) := by rw [i64w (by omega)]; omega
      rw [e1]
      refine Ev.pos (by omega) (Ev.pos (by simp only; omega) (Ev.pos (by simp only; omega) (Ev.pos (by simp; omega) (Ev.pos (by simp; omega) ?_))))
      rw [i64w (x := (i : Int) + 1) (by omega), i64w (x := (L.length : Int) - (L'.length : Int) + 1) (by omega)]
      have t0 : (0 : Int).toNat = 0 := rfl
      simp only [Int.toNat_natCast, t0, List.drop_zero, List.take_length, List.nil_append, e]
      rw [show ((L.length : Int) - (L'.length : Int)) + 1 = (L.length : Int) - ((rdrop L' x).length : Int) by omega]
      exact H) (by
    refine Ev.step (g := fun _ => some _) (fun k => ?_) (Ev.now _)
    rw [grapevineref12_Tree_Drop_l0, if_neg (by omega), List.take_of_length_le (Nat.le_refl _)])
  simp only [List.take_zero, List.foldl_nil, Int.sub_self] at this
  exact Ev.bind this (Ev.now _)

/-! ## The document's sums -/
theorem some_ev {L : List T36} (hm : ∀ r ∈ L, Mayr r) (hl : L.length ≤ 1000000) (o : Int) (n : Nat) (hn : n ≤ 5) (i : Int) : Ev (fun k => grapevineref12_Tree_some k ⟨L⟩ o (n : Int) i) (decide (cnt L o (n : Int) i ≠ 0)) := by
  refine Ev.bind (span_ev n hn) ?_
  obtain ⟨w, hw⟩ : ∃ w : Int, w = 4 ^ (5 - n) := ⟨_, rfl⟩
  have hw0 : 0 < w := hw ▸ pow4 _
  have hin : ∀ j, j < L.length → (inr o (n : Int) i (L.getD j z36) = true ↔ (L.getD j z36).f0 = o ∧ (IntKind.i64.wrap (Int.tdiv (L.getD j z36).f1 w) == i) = true) := fun j hj => by
    have hr := hm _ (getD_mem L z36 hj)
    have h1 : 0 ≤ (L.getD j z36).f1 ∧ (L.getD j z36).f1 ≤ 1023 := by have := hr.1; omega
    have h2 : Int.tdiv (L.getD j z36).f1 w = (L.getD j z36).f1 / w := Int.tdiv_eq_ediv_of_nonneg h1.1
    have h3 : 0 ≤ (L.getD j z36).f1 / w := Int.ediv_nonneg h1.1 (by omega)
    have h4 : (L.getD j z36).f1 / w ≤ (L.getD j z36).f1 := Int.ediv_le_self _ h1.1
    rw [h2, i64w (by omega), hw]
    unfold inr
    simp only [decide_eq_true_eq, beq_iff_eq]
    rw [show (5 - (n : Int)).toNat = 5 - n by omega]
    exact ⟨fun h => ⟨h.1, h.2.2.2⟩, fun h => ⟨h.1, by omega, by omega, h.2⟩⟩
  obtain ⟨r, hr, hE⟩ := Ev.loop (F := fun f (s : Int) => grapevineref12_Tree_some_l0 ⟨L⟩ o i w f s) (fun s n' => 0 ≤ s ∧ s + n' = L.length ∧ ∀ j, j < s.toNat → inr o (n : Int) i (L.getD j z36) = false) (fun r => r = if cnt L o (n : Int) i ≠ 0 then Sum.inl true else Sum.inr ()) (fun s n' hI => by
    obtain ⟨h0, hn', hall⟩ := hI
    by_cases h1 : s < (L.length : Int)
    · have hs := hin s.toNat (by omega)
      by_cases h2 : inr o (n : Int) i (L.getD s.toNat z36) = true
      · refine .inl ⟨Sum.inl true, ?_, Ev.step (g := fun _ => some (Sum.inl true)) (fun f => ?_) (Ev.now _)⟩
        · rw [if_pos]
          intro hc
          have := List.countP_eq_zero.1 hc _ (getD_mem L z36 (i := s.toNat) (by omega))
          exact this h2
        · obtain ⟨a1, a2⟩ := hs.1 h2
          rw [grapevineref12_Tree_some_l0, if_pos h1, if_pos ⟨h0, h1⟩]
          simp only
          rw [if_pos a1, if_pos ⟨h0, h1⟩, if_pos (by omega), a2]; rfl
      · refine .inr ⟨s + 1, n' - 1, by omega, ⟨by omega, by omega, fun j hj => ?_⟩, fun r H => Ev.step (fun f => ?_) H⟩
        · by_cases e : j = s.toNat
          · rw [e]; simpa using h2
          · exact hall j (by omega)
        · rw [grapevineref12_Tree_some_l0, if_pos h1, if_pos ⟨h0, h1⟩, i64w (x := s + 1) (by omega)]
          simp only
          by_cases a1 : (L.getD s.toNat z36).f0 = o
          · have a2 : (IntKind.i64.wrap (Int.tdiv (L.getD s.toNat z36).f1 w) == i) = false := by
              cases hb : (IntKind.i64.wrap (Int.tdiv (L.getD s.toNat z36).f1 w) == i)
              · rfl
              · exact absurd (hs.2 ⟨a1, hb⟩) h2
            rw [if_pos a1, if_pos ⟨h0, h1⟩, if_pos (by omega), a2]; rfl
          · rw [if_neg a1]; rfl
    · refine .inl ⟨Sum.inr (), ?_, Ev.step (g := fun _ => some (Sum.inr ())) (fun f => ?_) (Ev.now _)⟩
      · rw [if_neg]
        intro hc
        refine hc (List.countP_eq_zero.2 fun r hr => ?_)
        obtain ⟨j, hj, e⟩ := List.mem_iff_getElem.1 hr
        have := hall j (by omega)
        rw [getD_eq L z36 hj, e] at this
        rw [this]; simp
      · rw [grapevineref12_Tree_some_l0, if_neg h1]) 0 L.length ⟨by omega, by omega, fun j hj => absurd hj (by simp)⟩
  rw [← hw]
  refine Ev.bind hE ?_
  rw [hr]
  by_cases h : cnt L o (n : Int) i ≠ 0
  · rw [if_pos h]; exact (Ev.now _).is (decide_eq_true h).symm
  · rw [if_neg h]; exact (Ev.now _).is (decide_eq_false h).symm
theorem One_ev (l : List Int) (h : l.length ≤ 1000) : Ev (fun k => grapevineref5_One k l) (fnv fnv0 l) := by
  have := grapevineref5_Of_ev [l] (by unfold Short maxLen; simp) (fun y hy => by simp at hy; subst hy; unfold Short maxLen; omega)
  simp only [List.flatten_cons, List.flatten_nil, List.append_nil] at this
  exact Ev.bind this (Ev.now _)
theorem sum_r_ev {L : List T36} (hm : ∀ r ∈ L, Mayr r) (hl : L.length ≤ 1000000) (o : Int) : ∀ (d : Nat) (i : Int), d ≤ 5 → 0 ≤ i → i + 1 ≤ 1000000 * 4 ^ (5 - d) → Ev (fun k => grapevineref12_Tree_sum k ⟨L⟩ o (5 - (d : Int)) i) (sm L o d i) := by
  intro d
  induction d with
  | zero =>
    intro i _ hi _
    have hs : Ev (fun k => grapevineref12_Tree_some k ⟨L⟩ o 5 i) (decide (cnt L o 5 i ≠ 0)) := some_ev hm hl o 5 (by omega) i
    show Ev (fun k => grapevineref12_Tree_sum k ⟨L⟩ o 5 i) (sm L o 0 i)
    refine Ev.step (fun k => by rw [grapevineref12_Tree_sum]) (Ev.bind hs ?_)
    by_cases e : cnt L o 5 i = 0
    · have e2 := (cnt5 L o i).1 e
      refine Ev.pos (by simp; exact e) ((Ev.now _).is (by rw [sm, e2]; rfl))
    · refine Ev.neg (by simp; exact e) (Ev.pos rfl (Ev.bind (Find_ev L hl ⟨o, i⟩) ?_))
      cases h : (L.findIdx? fun r => decide (key r = ⟨o, i⟩)) with
      | none => exact absurd ((cnt5 L o i).2 (find_none.2 (fnd_none h).2)) e
      | some q =>
        obtain ⟨h1, h2, h3, h4⟩ := fnd_some h
        have hmr := hm _ (getD_mem L z36 h1)
        rw [h3]
        refine Ev.pos (by simp only; omega) ?_
        simp only [Int.toNat_natCast]
        refine Ev.bind ((rLay_ev (L.getD q z36)).is (if_pos hmr)) (Ev.bind (One_ev _ (len_lay_short hmr)) ((Ev.now _).is ?_))
        simp only [sm, h4, Option.map_some, Option.getD_some, dg]
  | succ d ih =>
    intro i hd hi hb
    have hlt : i + 1 ≤ 1000000 * 1024 := by
      have h1 : (4 : Int) ^ (5 - (d + 1)) ≤ 1024 := pow4_le (by omega)
      omega
    have hb2 : ∀ j : Int, 0 ≤ j → j < 4 → 4 * i + j + 1 ≤ 1000000 * 4 ^ (5 - d) := fun j h0 h1 => by
      have e : (4 : Int) ^ (5 - d) = 4 ^ (5 - (d + 1)) * 4 := by rw [show 5 - d = (5 - (d + 1)) + 1 by omega, Int.pow_succ]
      rw [e]; omega
    have r0 := ih (4 * i) (by omega) (by omega) (by have := hb2 0 (by omega) (by omega); omega)
    have r1 := ih (4 * i + 1) (by omega) (by omega) (hb2 1 (by omega) (by omega))
    have r2 := ih (4 * i + 2) (by omega) (by omega) (hb2 2 (by omega) (by omega))
    have r3 := ih (4 * i + 3) (by omega) (by omega) (hb2 3 (by omega) (by omega))
    have hs := some_ev hm hl o (5 - (d + 1)) (by omega) i
    have hloop : Ev (fun k => grapevineref12_Tree_sum_l0 ⟨L⟩ o (5 - ((d + 1 : Nat) : Int)) i (grapevineref12_Tree_sum k) k [] 0) [sm L o d (4 * i), sm L o d (4 * i + 1), sm L o d (4 * i + 2), sm L o d (4 * i + 3)] := by
      obtain ⟨K0, r0⟩ := r0
      obtain ⟨K1, r1⟩ := r1
      obtain ⟨K2, r2⟩ := r2
      obtain ⟨K3, r3⟩ := r3
      refine ⟨max (max K0 K1) (max (max K2 K3) 5), fun k hk => ?_⟩
      have r0 := r0 k (by omega)
      have r1 := r1 k (by omega)
      have r2 := r2 k (by omega)
      have r3 := r3 k (by omega)
      refine four (rc := grapevineref12_Tree_sum k) (f := fun k' ys j => grapevineref12_Tree_sum_l0 ⟨L⟩ o (5 - ((d + 1 : Nat) : Int)) i (grapevineref12_Tree_sum k) k' ys j) (fun j ys v hj hy v0 v1 v2 v3 k' => ?_) (fun ys k' => ?_) k (by omega)
      · have e1 : IntKind.i64.wrap ((5 - ((d + 1 : Nat) : Int)) + 1) = 5 - (d : Int) := by rw [i64w (by omega)]; omega
        have e2 : IntKind.i64.wrap (i * 4) = 4 * i := by rw [i64w (by omega)]; omega
        have e3 : IntKind.i64.wrap (4 * i + (j : Int)) = 4 * i + j := i64w (by omega)
        have e4 : IntKind.i64.wrap ((j : Int) + 1) = ((j + 1 : Nat) : Int) := by rw [i64w (by omega)]; omega
        have hv : grapevineref12_Tree_sum k ⟨L⟩ o (5 - (d : Int)) (4 * i + (j : Int)) = some v := by
          have : j = 0 ∨ j = 1 ∨ j = 2 ∨ j = 3 := by omega
          rcases this with rfl | rfl | rfl | rfl
          · rw [v0 rfl]; simpa using r0
          · rw [v1 rfl]; exact r1
          · rw [v2 rfl]; exact r2
          · rw [v3 rfl]; exact r3
        rw [grapevineref12_Tree_sum_l0, if_pos (by omega), e1, e2, e3, e4, hv]
        simp only [Option.bind_some]
        rw [if_pos (by simp; omega)]
      · rw [grapevineref12_Tree_sum_l0, if_neg (by omega)]
    have hall := rall_ev [sm L o d (4 * i), sm L o d (4 * i + 1), sm L o d (4 * i + 2), sm L o d (4 * i + 3)] (by simp)
    rw [show ((5 - (d + 1) : Nat) : Int) = 5 - ((d + 1 : Nat) : Int) by omega] at hs
    refine Ev.step (fun k => by rw [grapevineref12_Tree_sum]) (Ev.bind hs ?_)
    by_cases e : cnt L o (5 - ((d + 1 : Nat) : Int)) i = 0
    · refine Ev.pos (by simp only [e, ne_eq, not_true_eq_false, decide_false, Bool.not_false]) ((Ev.now _).is ?_)
      rw [sm, if_pos (by rw [← e]; congr 1)]
    · refine Ev.neg (by simp only [ne_eq, e, not_false_eq_true, decide_true, Bool.not_true]; simp) (Ev.neg (by omega) (Ev.bind hloop ((Ev.bind hall (Ev.now _)).is ?_)))
      rw [sm, if_neg (fun h => e (by rw [← h]; congr 1))]
theorem There_ev (o l i : Int) : Ev (fun k => grapevineref12_There k o l i) (decide (there o l i)) := by
  unfold grapevineref12_There
  refine Ev.bind (b := decide (there o l i)) ?_ (Ev.now _)
  by_cases c : 0 ≤ o ∧ o < 8 ∧ 0 ≤ l ∧ l ≤ 5 ∧ 0 ≤ i
  · obtain ⟨c1, c2, c3, c4, c5⟩ := c
    obtain ⟨n, rfl⟩ : ∃ n : Nat, l = n := ⟨l.toNat, by omega⟩
    have hp := pow4 (5 - n)
    refine Ev.pos (by omega) (Ev.pos (by omega) (Ev.pos (by omega) (Ev.pos (by omega) (Ev.pos (by omega) (Ev.bind (span_ev 0 (by omega)) (Ev.bind (span_ev n (by omega)) (Ev.pos (by omega) ((Ev.now _).is ?_))))))))
    rw [Nat.sub_zero, ratio n (by omega), i64w (by have := pow4_le (n := n) (by omega); have := pow4 n; omega)]
    refine decide_eq_decide.2 ⟨fun h => ⟨c1, c2, c3, c4, c5, by rw [Int.toNat_natCast]; exact h⟩, fun h => by have := h.2.2.2.2.2; rwa [Int.toNat_natCast] at this⟩
  · rw [decide_eq_false (fun h : there o l i => c ⟨h.1, h.2.1, h.2.2.1, h.2.2.2.1, h.2.2.2.2.1⟩)]
    refine Ev.ite (fun c1 => Ev.ite (fun c2 => Ev.ite (fun c3 => Ev.ite (fun c4 => Ev.ite (fun c5 => ?_) (fun _ => Ev.now _)) (fun _ => Ev.now _)) (fun _ => Ev.now _)) (fun _ => Ev.now _)) (fun _ => Ev.now _)
    exact absurd ⟨by omega, by omega, by omega, by omega, by omega⟩ c
theorem Sum_r_ev {L : List T36} (hm : ∀ r ∈ L, Mayr r) (hl : L.length ≤ 1000000) (o l i : Int) : Ev (fun k => grapevineref12_Tree_Sum k ⟨L⟩ o l i) (tsum L o l i) := by
  refine Ev.bind (There_ev o l i) ?_
  unfold tsum
  by_cases h : there o l i
  · rw [if_pos h]
    refine Ev.neg (by simp [h]) (Ev.bind ?_ (Ev.now _))
    obtain ⟨_, _, h3, h4, h5, h6⟩ := h
    obtain ⟨n, rfl⟩ : ∃ n : Nat, l = n := ⟨l.toNat, by omega⟩
    rw [Int.toNat_natCast] at h6
    have := sum_r_ev hm hl o (5 - n) i (by omega) h5 (by rw [show 5 - (5 - n) = n by omega]; omega)
    rw [show (5 - ((5 - n : Nat) : Int)) = (n : Int) by omega] at this
    rw [show (5 - (n : Int)).toNat = 5 - n by omega]
    exact this
  · rw [if_neg h]
    exact Ev.pos (by simp [h]) (Ev.now _)
theorem Root_r_ev {L : List T36} (hm : ∀ r ∈ L, Mayr r) (hl : L.length ≤ 1000000) : Ev (fun k => grapevineref12_Tree_Root k ⟨L⟩) (troot L) := by
  have := Ev.count (F := fun k (s : List Int) i => grapevineref12_Tree_Root_l0 ⟨L⟩ k s i) (r := (List.range 8).map fun j : Nat => sm L (j : Int) 5 0) (fun i => (List.range i).map fun j : Nat => sm L (j : Int) 5 0) 8 (fun i hi r H => by
    rw [map_range_succ] at H
    have hs := sum_r_ev hm hl (i : Int) 5 0 (by omega) (by omega) (by decide)
    refine Ev.step (g := fun k => (grapevineref12_Tree_sum k ⟨L⟩ (i : Int) 0 0).bind fun t8 => if ((List.range i).map fun j : Nat => sm L (j : Int) 5 0).length + ([t8] : List Int).length ≤ 1073741824 then grapevineref12_Tree_Root_l0 ⟨L⟩ k (((List.range i).map fun j : Nat => sm L (j : Int) 5 0) ++ ([t8] : List Int)) ((i + 1 : Nat) : Int) else none) (fun k => ?_) (Ev.bind hs (Ev.pos (by simp; omega) H))
    rw [grapevineref12_Tree_Root_l0, if_pos (by omega), i64w (x := (i : Int) + 1) (by omega)]; rfl) (by
    refine Ev.step (g := fun _ => some _) (fun k => ?_) (Ev.now _)
    rw [grapevineref12_Tree_Root_l0, if_neg (by omega)])
  rw [root8] at this
  have hall := rall_ev [sm L 0 5 0, sm L 1 5 0, sm L 2 5 0, sm L 3 5 0, sm L 4 5 0, sm L 5 5 0, sm L 6 5 0, sm L 7 5 0] (by simp)
  exact Ev.bind this (Ev.bind hall (Ev.now _))
end Go.Proofs.YtajhihpaccggdaaDoor.Pure
