/- Stamps and clocks in plain words. -/
import Derived.Test.YtmphcmgbognmnaaF0
import Derived.Test.YtmphcmgbognmnaaGgP
namespace Go.Proofs.Ytmphcmgbognmnaa.Pure
open Go Go.Gg Go.Gp Gf
set_option linter.unusedVariables false

def Wall (n : Int) : Prop := 0 ≤ n ∧ n ≤ 1099511627776
def Mays (s : T23) : Prop := Wall s.f0 ∧ 0 ≤ s.f1 ∧ s.f1 ≤ 65535
def Lt (a b : T23) : Prop := a.f0 < b.f0 ∨ a.f0 = b.f0 ∧ a.f1 < b.f1
instance (n : Int) : Decidable (Wall n) := by unfold Wall; infer_instance
instance (s : T23) : Decidable (Mays s) := by unfold Mays; infer_instance
instance (a b : T23) : Decidable (Lt a b) := by unfold Lt; infer_instance
def st (c : T81) : T23 := ⟨c.f0, c.f1⟩
def ck (s : T23) : T81 := ⟨s.f0, s.f1⟩

theorem wall_some (n : Int) : stamp_wall n = some (decide (Wall n)) := by
  unfold stamp_wall Wall
  by_cases h : n ≥ 0 <;> simp [h]
theorem May_some (s : T23) : stamp_May s = some (decide (Mays s)) := by
  unfold stamp_May
  rw [wall_some]
  unfold Mays
  simp only [Option.bind_some]
  by_cases h : Wall s.f0 <;> by_cases h' : s.f1 ≥ 0 <;> simp [h, h']
theorem Less_some (a b : T23) : stamp_Less a b = some (decide (Lt a b)) := by
  unfold stamp_Less Lt
  by_cases h : a.f0 = b.f0
  · rw [if_neg (by simp [h])]; congr 1; exact decide_eq_decide.2 (by omega)
  · rw [if_pos h]; congr 1; exact decide_eq_decide.2 (by omega)
theorem in_some (a b : Int) : grapevineref2_in a b = some (decide (0 ≤ a ∧ a ≤ b)) := by
  unfold grapevineref2_in
  by_cases h : a ≥ 0 <;> simp [h]
theorem rMay_some (s : T23) : grapevineref2_May s = some (decide (Mays s)) := by
  unfold grapevineref2_May
  rw [in_some, in_some]
  unfold Mays Wall
  simp only [Option.bind_some]
  by_cases h : 0 ≤ s.f0 ∧ s.f0 ≤ 1099511627776 <;> simp [h]
theorem rLess_some (a b : T23) : grapevineref2_Less a b = some (decide (Lt a b)) := by
  unfold grapevineref2_Less Lt
  by_cases h : a.f0 < b.f0
  · simp [h]
  · by_cases h' : a.f0 = b.f0 <;> simp [h, h']
theorem New_some (s : T23) : stamp_New s = some (if Mays s then some (ck s) else none) := by
  unfold stamp_New
  rw [May_some]
  by_cases h : Mays s <;> simp [h, ck]

/-! ## A clock's acts -/
def tick (c : T23) (n : Int) : T23 × Int × T23 :=
  if ¬ Wall n then (⟨0, 0⟩, 2, c) else if n > c.f0 then (⟨n, 0⟩, 0, ⟨n, 0⟩) else if c.f1 + 1 > 65535 then (⟨0, 0⟩, 4, c) else (⟨c.f0, c.f1 + 1⟩, 0, ⟨c.f0, c.f1 + 1⟩)
theorem Tick_some {c : T23} (hc : Mays c) (n : Int) : stamp_Clock_Tick (ck c) n = some ((tick c n).1, (tick c n).2.1, ck (tick c n).2.2) := by
  unfold Mays Wall at hc
  have e : IntKind.i64.wrap (c.f1 + 1) = c.f1 + 1 := i64w (by omega)
  unfold stamp_Clock_Tick stamp_Clock_set tick ck
  simp only [wall_some, e, Option.bind_some]
  by_cases h : Wall n
  · by_cases h1 : n > c.f0
    · simp [h, h1]
    · by_cases h2 : c.f1 + 1 > 65535
      · simp [h, h1, h2]
      · simp [h, h1, h2]
  · simp [h]
def tops (c s : T23) : T23 := if Lt s c then c else s
def mw (c s : T23) : Int := if c.f0 > s.f0 then c.f0 else s.f0
def see (c s : T23) (n : Int) : Int × T23 :=
  if ¬ (Mays s ∧ Wall n) then (2, c) else if s.f0 - n > 1000 then (5, c) else if n > mw c s then (0, ⟨n, 0⟩) else
    if (tops c s).f1 + 1 > 65535 then (4, c) else (0, ⟨(tops c s).f0, (tops c s).f1 + 1⟩)
theorem tops_may {c s : T23} (hc : Mays c) (hs : Mays s) : Mays (tops c s) := by unfold tops; split <;> assumption
theorem Max2 (a b : T23) : Ev (fun k => stamp_Max k [a, b]) (if Lt a b then b else a) := by
  unfold stamp_Max
  refine Ev.bind ?_ (Ev.now _)
  refine Ev.step (g := fun k => stamp_Max_l0 [a, b] k 1 a) (fun k => ?_) (Ev.step (g := fun k => stamp_Max_l0 [a, b] k 2 (if Lt a b then b else a)) (fun k => ?_) (Ev.step (g := fun _ => some _) (fun k => ?_) (Ev.now _)))
  · rw [stamp_Max_l0, if_pos (by simp), if_pos (by simp)]
    simp only [if_true, Option.bind_some]
    exact congrArg (fun z => stamp_Max_l0 [a, b] k z a) (i64w (by omega))
  · rw [stamp_Max_l0, if_pos (by simp), if_pos (by simp), if_neg (by omega)]
    have e : ([a, b] : List T23).getD (1 : Int).toNat z23 = b := rfl
    rw [e, Less_some]
    simp only [Option.bind_some]
    have e2 : IntKind.i64.wrap (1 + 1) = 2 := i64w (by omega)
    rw [e2]
    by_cases h : Lt a b
    · simp [h]
    · simp [h]
  · rw [stamp_Max_l0, if_neg (by simp)]
theorem See_ev {c : T23} (hc : Mays c) (s : T23) (n : Int) : Ev (fun k => stamp_Clock_See k (ck c) s n) ((see c s n).1, ck (see c s n).2) := by
  unfold stamp_Clock_See
  simp only [May_some, wall_some, Option.bind_some]
  by_cases h : Mays s ∧ Wall n
  · have e : (if (!decide (Mays s)) = true then some true else some (!decide (Wall n))) = some false := by simp [h.1, h.2]
    rw [e]
    simp only [Option.bind_some]
    refine Ev.neg (by simp) ?_
    obtain ⟨h1, h2⟩ := h
    have h1' := h1; have h2' := h2
    unfold Mays Wall at hc h1'
    unfold Wall at h2'
    have ew : IntKind.i64.wrap (s.f0 - n) = s.f0 - n := i64w (by omega)
    have s0 : see c s n = if s.f0 - n > 1000 then (5, c) else if n > mw c s then (0, ⟨n, 0⟩) else
        if (tops c s).f1 + 1 > 65535 then (4, c) else (0, ⟨(tops c s).f0, (tops c s).f1 + 1⟩) := by
      unfold see; exact if_neg (not_not_intro ⟨h1, h2⟩)
    rw [ew]
    refine Ev.ite (fun h3 => (Ev.now _).is (by rw [s0, if_pos h3])) (fun h3 => ?_)
    rw [if_neg h3] at s0
    refine Ev.ite (fun h4 => ?_) (fun h4 => ?_)
    · have h4 : n > mw c s := h4
      rw [if_pos h4] at s0
      rw [s0]
      exact (Ev.now _).is (by simp [ck])
    · have h4 : ¬ n > mw c s := h4
      rw [if_neg h4] at s0
      have ec : (⟨(ck c).f0, (ck c).f1⟩ : T23) = c := rfl
      rw [ec]
      refine Ev.bind (Ev.bind ((Max2 s c).is (show _ = tops c s from rfl)) (Ev.now _)) ?_
      rw [s0]
      unfold stamp_Clock_set
      have ht := tops_may (c := c) (s := s) (by unfold Mays Wall; exact hc) h1
      unfold Mays Wall at ht
      have e6 : IntKind.i64.wrap ((tops c s).f1 + 1) = (tops c s).f1 + 1 := i64w (by omega)
      by_cases h6 : (tops c s).f1 + 1 > 65535
      · exact (Ev.now _).congr fun k => by simp [h6, ck, e6]
      · exact (Ev.now _).congr fun k => by simp [h6, ck, e6]
  · have e : (if (!decide (Mays s)) = true then some true else some (!decide (Wall n))) = some true := by
      by_cases h1 : Mays s
      · have h2 : ¬ Wall n := fun h2 => h ⟨h1, h2⟩
        simp [h1, h2]
      · simp [h1]
    rw [e]
    simp only [Option.bind_some]
    refine Ev.pos trivial ((Ev.now _).is ?_)
    unfold see
    rw [if_pos h]
theorem tick_may {c : T23} (hc : Mays c) (n : Int) : Mays (tick c n).2.2 := by
  have h := hc
  unfold Mays Wall at h
  unfold tick
  split
  · exact hc
  · rename_i h1
    have h1 : Wall n := by simpa using h1
    have h1' := h1
    unfold Wall at h1'
    split
    · exact ⟨h1, by simp, by simp⟩
    · split
      · exact hc
      · exact ⟨hc.1, by simp only; omega, by simp only; omega⟩
theorem see_may {c : T23} (hc : Mays c) (s : T23) (n : Int) : Mays (see c s n).2 := by
  unfold see
  by_cases h1 : Mays s ∧ Wall n
  · rw [if_neg (not_not_intro h1)]
    by_cases h2 : s.f0 - n > 1000
    · rw [if_pos h2]; exact hc
    · rw [if_neg h2]
      by_cases h3 : n > mw c s
      · rw [if_pos h3]; exact ⟨h1.2, by simp, by simp⟩
      · rw [if_neg h3]
        have ht := tops_may hc h1.1
        by_cases h4 : (tops c s).f1 + 1 > 65535
        · rw [if_pos h4]; exact hc
        · rw [if_neg h4]
          have := ht.2
          exact ⟨ht.1, by simp only; omega, by simp only; omega⟩
  · rw [if_pos h1]; exact hc
theorem Last_some (c : T23) : stamp_Clock_Last (ck c) = some c := rfl
theorem awake_ev : Ev (fun k => grapevinelaw2_awake k) true := ⟨100, fun k hk => by
  obtain ⟨j, rfl⟩ : ∃ j, k = j + 100 := ⟨k - 100, by omega⟩
  rfl⟩
theorem step64 (i : Nat) (h : i < 4294967296) : IntKind.i64.wrap ((i : Int) + 1) = ((i + 1 : Nat) : Int) := by rw [i64w (by omega)]; omega
theorem ext23 {a b : T23} (h0 : a.f0 = b.f0) (h1 : a.f1 = b.f1) : a = b := by cases a; cases b; simp at h0 h1; subst h0; subst h1; rfl

/-! ## The greatest of many -/
def mxi (l : List T23) : Nat → T23
  | 0 => ⟨0, 0⟩
  | i + 1 => if i = 0 ∨ Lt (mxi l i) (l.getD i z23) then l.getD i z23 else mxi l i
theorem Max_ev (l : List T23) (hl : l.length < 1000) : Ev (fun k => stamp_Max k l) (mxi l l.length) := by
  unfold stamp_Max
  refine Ev.bind (b := mxi l l.length) ?_ (Ev.now _)
  exact Ev.count (F := fun k s i => stamp_Max_l0 l k i s) (fun i => mxi l i) l.length (fun i hi r H => by
    refine Ev.step (fun k => ?_) H
    rw [stamp_Max_l0, if_pos (by omega), if_pos (by omega), Int.toNat_natCast]
    have eta : (⟨(l.getD i z23).f0, (l.getD i z23).f1⟩ : T23) = l.getD i z23 := rfl
    rw [eta, Less_some, step64 i (by omega)]
    simp only [mxi, Option.bind_some]
    by_cases h0 : i = 0
    · subst h0; simp
    · rw [if_neg (by omega)]
      by_cases h1 : Lt (mxi l i) (l.getD i z23)
      · simp only [h0, h1, decide_true, or_true, if_true, Option.bind_some]
      · simp only [h0, h1, decide_false, or_self, if_false, Option.bind_some, Bool.false_eq_true]) (by
    refine Ev.step (g := fun _ => some (mxi l l.length)) (fun k => ?_) (Ev.now _)
    rw [stamp_Max_l0, if_neg (by omega)])
theorem rMax_ev (l : List T23) (hl : l.length < 1000) : Ev (fun k => grapevineref2_Max k l) (mxi l l.length) := by
  unfold grapevineref2_Max
  refine Ev.bind (b := mxi l l.length) ?_ (Ev.now _)
  exact Ev.count (F := fun k s i => grapevineref2_Max_l0 l k i s) (fun i => mxi l i) l.length (fun i hi r H => by
    refine Ev.step (fun k => ?_) H
    rw [grapevineref2_Max_l0, if_pos (by omega), Int.toNat_natCast]
    have eta : (⟨(l.getD i z23).f0, (l.getD i z23).f1⟩ : T23) = l.getD i z23 := rfl
    rw [eta, rLess_some, step64 i (by omega), if_pos (show 0 ≤ (i : Int) ∧ (i : Int) < (l.length : Int) by omega)]
    simp only [mxi, Option.bind_some]
    by_cases h0 : i = 0
    · subst h0; simp [hi]
    · rw [if_neg (by omega)]
      by_cases h1 : Lt (mxi l i) (l.getD i z23)
      · have hc : (i : Int) < (l.length : Int) := by omega
        have hc0 : (0 : Int) ≤ (i : Int) := by omega
        simp only [h0, h1, hc, hc0, and_self, decide_true, or_true, if_true, Option.bind_some]
      · simp only [h0, h1, decide_false, or_self, if_false, Option.bind_some, Bool.false_eq_true]) (by
    refine Ev.step (g := fun _ => some (mxi l l.length)) (fun k => ?_) (Ev.now _)
    rw [grapevineref2_Max_l0, if_neg (by omega)])
theorem Lt_trans' {a b c : T23} (h : ¬ Lt a b) (h' : Lt a c) : ¬ Lt c b := by unfold Lt at *; omega
theorem Lt_irr (a : T23) : ¬ Lt a a := by unfold Lt; omega
theorem mxi_spec (l : List T23) : ∀ i, i ≤ l.length → (0 < i → ∃ j, j < i ∧ mxi l i = l.getD j z23) ∧ ∀ j, j < i → ¬ Lt (mxi l i) (l.getD j z23)
  | 0, _ => ⟨fun h => absurd h (by omega), fun j hj => absurd hj (by omega)⟩
  | i + 1, h => by
    obtain ⟨h1, h2⟩ := mxi_spec l i (by omega)
    unfold mxi
    split
    · rename_i hc
      refine ⟨fun _ => ⟨i, by omega, rfl⟩, fun j hj => ?_⟩
      by_cases e : j = i
      · subst e; exact Lt_irr _
      · rcases hc with hc | hc
        · omega
        · exact Lt_trans' (h2 j (by omega)) hc
    · rename_i hc
      refine ⟨fun _ => ?_, fun j hj => ?_⟩
      · obtain ⟨j, hj, e⟩ := h1 (by omega); exact ⟨j, by omega, e⟩
      · by_cases e : j = i
        · subst e; exact fun hl => hc (.inr hl)
        · exact h2 j (by omega)
theorem mxi_mem {l : List T23} (h : l ≠ []) : mxi l l.length ∈ l := by
  obtain ⟨j, hj, e⟩ := (mxi_spec l l.length (Nat.le_refl _)).1 (List.length_pos_iff.2 h)
  rw [e]; exact getD_mem l z23 hj
theorem mxi_top {l : List T23} {x : T23} (hx : x ∈ l) : ¬ Lt (mxi l l.length) x := by
  obtain ⟨j, hj, rfl⟩ := List.mem_iff_getElem.1 hx
  have := (mxi_spec l l.length (Nat.le_refl _)).2 j hj
  rwa [getD_eq l z23 hj] at this
theorem mxi_same {l m : List T23} (hl : l ≠ []) (hm : m ≠ []) (h : ∀ x, x ∈ l ↔ x ∈ m) : mxi l l.length = mxi m m.length := by
  have h1 := mxi_top (l := l) ((h _).2 (mxi_mem hm))
  have h2 := mxi_top (l := m) ((h _).1 (mxi_mem hl))
  unfold Lt at h1 h2
  exact ext23 (by omega) (by omega)
end Go.Proofs.Ytmphcmgbognmnaa.Pure
