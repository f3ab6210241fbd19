/- What a tree's ranges come to; the document's tree. -/
import Derived.Test.YtajhihpaccggdaaDoorF0
import Derived.Test.YtajhihpaccggdaaDoorF3
import Derived.Test.YtajhihpaccggdaaDoorF4
import Derived.Test.YtajhihpaccggdaaDoorPTree
namespace Go.Proofs.YtajhihpaccggdaaDoor.Pure
open Go Go.Gg Go.Gp Gf
set_option linter.unusedVariables false
set_option linter.unusedSimpArgs false

/-! ## Sums -/
def sm (L : List T36) (o : Int) : Nat → Int → Int
  | 0, i => ((L.find? fun r => decide (key r = ⟨o, i⟩)).map dg).getD 0
  | d + 1, i => if cnt L o (5 - ((d : Int) + 1)) i = 0 then 0 else allD [sm L o d (4 * i), sm L o d (4 * i + 1), sm L o d (4 * i + 2), sm L o d (4 * i + 3)]
theorem cnt5 (L : List T36) (o i : Int) : cnt L o 5 i = 0 ↔ (L.find? fun r => decide (key r = ⟨o, i⟩)) = none := by
  unfold cnt
  rw [List.countP_eq_zero, List.find?_eq_none]
  have e : ∀ r : T36, inr o 5 i r = decide (key r = ⟨o, i⟩) := fun r => by
    unfold inr key
    rw [decide_eq_decide, T32.mk.injEq]
    simp
  simp only [e]
theorem pow4 (n : Nat) : (0 : Int) < 4 ^ n := Int.pow_pos (by omega)
theorem four {α : Type} {rc : α → Int → Int → Int → Option Int} {f : Nat → List Int → Int → Option (List Int)} {v0 v1 v2 v3 : Int}
    (step : ∀ (j : Nat) (ys : List Int) (v : Int), j < 4 → ys.length ≤ 4 → (j = 0 → v = v0) → (j = 1 → v = v1) → (j = 2 → v = v2) → (j = 3 → v = v3) → ∀ k, f (k + 1) ys (j : Int) = f k (ys ++ [v]) ((j + 1 : Nat) : Int))
    (stop : ∀ (ys : List Int) k, f (k + 1) ys ((4 : Nat) : Int) = some ys) (k : Nat) (hk : 5 ≤ k) : f k [] 0 = some [v0, v1, v2, v3] := by
  obtain ⟨k, rfl⟩ : ∃ j, k = j + 5 := ⟨k - 5, by omega⟩
  have h0 := step 0 [] v0 (by omega) (by simp) (fun _ => rfl) (by omega) (by omega) (by omega) (k + 4)
  have h1 := step 1 [v0] v1 (by omega) (by simp) (by omega) (fun _ => rfl) (by omega) (by omega) (k + 3)
  have h2 := step 2 [v0, v1] v2 (by omega) (by simp) (by omega) (by omega) (fun _ => rfl) (by omega) (k + 2)
  have h3 := step 3 [v0, v1, v2] v3 (by omega) (by simp) (by omega) (by omega) (by omega) (fun _ => rfl) (k + 1)
  have h4 := stop [v0, v1, v2, v3] k
  exact (h0.trans h1).trans ((h2.trans h3).trans h4)
theorem all_ev (ds : List Int) (h : ds.length ≤ 1000000) : Ev (fun k => digest_All k ds) (allD ds) := digest_All_ev ds (by omega)
theorem rall_ev (ds : List Int) (h : ds.length ≤ 1000000) : Ev (fun k => grapevineref5_All k ds) (allD ds) := grapevineref5_All_ev ds (by omega)
theorem sum_t_ev {t : T97} {L : List T36} (h : TI t L) (o : Int) : ∀ (d : Nat) (i : Int), d ≤ 5 → 0 ≤ i → i + 1 ≤ 1000000 * 4 ^ (5 - d) → Ev (fun k => tree_Tree_sum k t o (5 - (d : Int)) i) (sm L o d i) := by
  intro d
  induction d with
  | zero =>
    intro i _ hi _
    refine Ev.step (g := fun _ => some (sm L o 0 i)) (fun k => ?_) (Ev.now _)
    have hc := h.ct o 5 i
    rw [tree_Tree_sum]
    simp only [Int.natCast_zero, Int.sub_zero]
    rw [show ((mget t.f1 (⟨o, 5, i⟩ : T130)).getD 0) = cv t.f1 ⟨o, 5, i⟩ from rfl, hc]
    by_cases e : cnt L o 5 i = 0
    · have e2 := (cnt5 L o i).1 e
      rw [if_pos (by omega), sm, e2]; rfl
    · rw [if_neg (by omega), if_pos trivial, h.get, sm]
      cases hf : (L.find? fun r => decide (key r = ⟨o, i⟩)) with
      | none => exact absurd ((cnt5 L o i).2 hf) e
      | some r => simp only [Option.map_some, Option.getD_some, leafOf]
  | succ d ih =>
    intro i hd hi hb
    have hlt : i + 1 ≤ 1000000 * 1024 := by
      have h1 : (4 : Int) ^ (5 - (d + 1)) ≤ 4 ^ 5 := by
        have : d = 0 ∨ d = 1 ∨ d = 2 ∨ d = 3 ∨ d = 4 := by omega
        rcases this with rfl | rfl | rfl | rfl | rfl <;> decide
      have h2 : (4 : Int) ^ 5 = 1024 := by decide
      omega
    have hb2 : ∀ j : Int, 0 ≤ j → j < 4 → 4 * i + j + 1 ≤ 1000000 * 4 ^ (5 - d) := fun j h0 h1 => by
      have e : (4 : Int) ^ (5 - d) = 4 ^ (5 - (d + 1)) * 4 := by rw [show 5 - d = (5 - (d + 1)) + 1 by omega, Int.pow_succ]
      rw [e]; omega
    have r0 := ih (4 * i) (by omega) (by omega) (by have := hb2 0 (by omega) (by omega); omega)
    have r1 := ih (4 * i + 1) (by omega) (by omega) (hb2 1 (by omega) (by omega))
    have r2 := ih (4 * i + 2) (by omega) (by omega) (hb2 2 (by omega) (by omega))
    have r3 := ih (4 * i + 3) (by omega) (by omega) (hb2 3 (by omega) (by omega))
    have hc := h.ct o (5 - ((d : Int) + 1)) i
    have hloop : Ev (fun k => tree_Tree_sum_l0 t o (5 - ((d + 1 : Nat) : Int)) i (tree_Tree_sum k) k [] 0) [sm L o d (4 * i), sm L o d (4 * i + 1), sm L o d (4 * i + 2), sm L o d (4 * i + 3)] := by
      obtain ⟨K0, r0⟩ := r0
      obtain ⟨K1, r1⟩ := r1
      obtain ⟨K2, r2⟩ := r2
      obtain ⟨K3, r3⟩ := r3
      refine ⟨max (max K0 K1) (max (max K2 K3) 5), fun k hk => ?_⟩
      have r0 := r0 k (by omega)
      have r1 := r1 k (by omega)
      have r2 := r2 k (by omega)
      have r3 := r3 k (by omega)
      refine four (rc := tree_Tree_sum k) (f := fun k' ys j => tree_Tree_sum_l0 t o (5 - ((d + 1 : Nat) : Int)) i (tree_Tree_sum k) k' ys j) (fun j ys v hj hy v0 v1 v2 v3 k' => ?_) (fun ys k' => ?_) k (by omega)
      · have e1 : IntKind.i64.wrap ((5 - ((d + 1 : Nat) : Int)) + 1) = 5 - (d : Int) := by rw [i64w (by omega)]; omega
        have e2 : IntKind.i64.wrap (4 * i) = 4 * i := i64w (by omega)
        have e3 : IntKind.i64.wrap (4 * i + (j : Int)) = 4 * i + j := i64w (by omega)
        have e4 : IntKind.i64.wrap ((j : Int) + 1) = ((j + 1 : Nat) : Int) := by rw [i64w (by omega)]; omega
        have hv : tree_Tree_sum k t o (5 - (d : Int)) (4 * i + (j : Int)) = some v := by
          have : j = 0 ∨ j = 1 ∨ j = 2 ∨ j = 3 := by omega
          rcases this with rfl | rfl | rfl | rfl
          · rw [v0 rfl]; simpa using r0
          · rw [v1 rfl]; exact r1
          · rw [v2 rfl]; exact r2
          · rw [v3 rfl]; exact r3
        rw [tree_Tree_sum_l0, if_pos (by omega), e1, e2, e3, e4, hv]
        simp only [Option.bind_some]
        rw [if_pos (by simp; omega)]
      · rw [tree_Tree_sum_l0, if_neg (by omega)]
    have hall := all_ev [sm L o d (4 * i), sm L o d (4 * i + 1), sm L o d (4 * i + 2), sm L o d (4 * i + 3)] (by simp)
    refine Ev.step (fun k => by rw [tree_Tree_sum]) (Ev.ite (fun e => (Ev.now _).is ?_) (fun e => Ev.neg (by omega) (Ev.bind hloop ((Ev.bind hall (Ev.now _)).is ?_))))
    · rw [show ((mget t.f1 (⟨o, 5 - ((d + 1 : Nat) : Int), i⟩ : T130)).getD 0) = cv t.f1 ⟨o, 5 - ((d + 1 : Nat) : Int), i⟩ from rfl, show (5 - ((d + 1 : Nat) : Int)) = 5 - ((d : Int) + 1) by omega, hc] at e
      rw [sm, if_pos (by omega)]
    · rw [show ((mget t.f1 (⟨o, 5 - ((d + 1 : Nat) : Int), i⟩ : T130)).getD 0) = cv t.f1 ⟨o, 5 - ((d + 1 : Nat) : Int), i⟩ from rfl, show (5 - ((d + 1 : Nat) : Int)) = 5 - ((d : Int) + 1) by omega, hc] at e
      rw [sm, if_neg (by omega)]

/-! ## Which ranges there are -/
theorem pow4_le {n : Nat} (h : n ≤ 5) : (4 : Int) ^ n ≤ 1024 := by
  have : n = 0 ∨ n = 1 ∨ n = 2 ∨ n = 3 ∨ n = 4 ∨ n = 5 := by omega
  rcases this with rfl | rfl | rfl | rfl | rfl | rfl <;> decide
theorem long_ev (l : Nat) (h : l ≤ 5) : Ev (fun k => tree_long k (l : Int)) (4 ^ (5 - l)) := by
  have := Ev.count (F := fun k (s : Int) i => tree_long_l0 (l : Int) k s i) (r := 4 ^ (5 - l)) (fun i => 4 ^ i) (5 - l) (fun i hi r H => by
    refine Ev.step (fun k => ?_) H
    have h1 := pow4_le (n := i + 1) (by omega)
    have h2 := pow4 (i + 1)
    rw [tree_long_l0, i64w (x := 5 - (l : Int)) (by omega), if_pos (by omega), i64w (x := (i : Int) + 1) (by omega), i64w (x := (4 : Int) ^ i * 4) (by rw [← Int.pow_succ]; omega), ← Int.pow_succ]; try rfl) (by
    refine Ev.step (g := fun _ => some _) (fun k => ?_) (Ev.now _)
    rw [tree_long_l0, i64w (x := 5 - (l : Int)) (by omega), if_neg (by omega)])
  exact Ev.bind (by simpa using this) (Ev.now _)
theorem span_ev (l : Nat) (h : l ≤ 5) : Ev (fun k => grapevineref12_span k (l : Int)) (4 ^ (5 - l)) := by
  have := Ev.count (F := fun k (s : Int) i => grapevineref12_span_l0 k s ((l : Int) + i)) (r := 4 ^ (5 - l)) (fun i => 4 ^ i) (5 - l) (fun i hi r H => by
    refine Ev.step (fun k => ?_) H
    have h1 := pow4_le (n := i + 1) (by omega)
    have h2 := pow4 (i + 1)
    rw [grapevineref12_span_l0, if_pos (by omega), i64w (x := (l : Int) + (i : Int) + 1) (by omega), i64w (x := (4 : Int) ^ i * 4) (by rw [← Int.pow_succ]; omega), ← Int.pow_succ]
    rw [show (l : Int) + (i : Int) + 1 = (l : Int) + ((i + 1 : Nat) : Int) by omega]) (by
    refine Ev.step (g := fun _ => some _) (fun k => ?_) (Ev.now _)
    rw [grapevineref12_span_l0, if_neg (by omega)])
  exact Ev.bind (by simpa using this) (Ev.now _)
def there (o l i : Int) : Prop := 0 ≤ o ∧ o < 8 ∧ 0 ≤ l ∧ l ≤ 5 ∧ 0 ≤ i ∧ i < 4 ^ l.toNat
instance (o l i : Int) : Decidable (there o l i) := by unfold there; infer_instance
theorem ratio (l : Nat) (h : l ≤ 5) : Int.tdiv ((4 : Int) ^ 5) (4 ^ (5 - l)) = 4 ^ l := by
  have : l = 0 ∨ l = 1 ∨ l = 2 ∨ l = 3 ∨ l = 4 ∨ l = 5 := by omega
  rcases this with rfl | rfl | rfl | rfl | rfl | rfl <;> decide
def tsum (L : List T36) (o l i : Int) : Int × Bool := if there o l i then (sm L o (5 - l).toNat i, true) else (0, false)
theorem Sum_t_ev {t : T97} {L : List T36} (h : TI t L) (o l i : Int) : Ev (fun k => tree_Tree_Sum k t o l i) (tsum L o l i) := by
  unfold tree_Tree_Sum tsum
  by_cases c : 0 ≤ o ∧ o < 8 ∧ 0 ≤ l ∧ l ≤ 5 ∧ 0 ≤ i
  · obtain ⟨c1, c2, c3, c4, c5⟩ := c
    obtain ⟨n, rfl⟩ : ∃ n : Nat, l = n := ⟨l.toNat, by omega⟩
    have hl5 := long_ev n (by omega)
    have hl0 := long_ev 0 (by omega)
    have hp := pow4 (5 - n)
    have hb : Ev (fun k => if o < 0 then some true else if o ≥ 8 then some true else if (n : Int) < 0 then some true else if (n : Int) > 5 then some true else if i < 0 then some true else (tree_long k 0).bind fun t8 => (tree_long k (n : Int)).bind fun t12 => if ¬ t12 = 0 then some (decide (i ≥ IntKind.i64.wrap (Int.tdiv t8 t12))) else none) (decide (¬ i < 4 ^ n)) := by
      refine Ev.neg (by omega) (Ev.neg (by omega) (Ev.neg (by omega) (Ev.neg (by omega) (Ev.neg (by omega) (Ev.bind hl0 (Ev.bind hl5 (Ev.pos (by omega) ((Ev.now _).is ?_))))))))
      rw [Nat.sub_zero, ratio n (by omega), i64w (by have := pow4_le (n := n) (by omega); have := pow4 n; omega)]
      exact decide_eq_decide.2 (by omega)
    refine Ev.bind hb ?_
    by_cases c6 : i < 4 ^ n
    · rw [if_pos ⟨c1, c2, c3, c4, c5, by rw [Int.toNat_natCast]; exact c6⟩]
      refine Ev.neg (by simpa using c6) (Ev.bind ?_ (Ev.now _))
      have := sum_t_ev h o (5 - n) i (by omega) c5 (by rw [show 5 - (5 - n) = n by omega]; omega)
      rw [show (5 - ((5 - n : Nat) : Int)) = (n : Int) by omega] at this
      rw [show (5 - (n : Int)).toNat = 5 - n by omega]
      exact this
    · rw [if_neg (fun h => c6 (by have := h.2.2.2.2.2; rwa [Int.toNat_natCast] at this))]
      exact Ev.pos (by simpa using c6) (Ev.now _)
  · rw [if_neg (fun h => c ⟨h.1, h.2.1, h.2.2.1, h.2.2.2.1, h.2.2.2.2.1⟩)]
    refine Ev.bind (b := true) ?_ (Ev.pos rfl (Ev.now _))
    refine Ev.ite (fun _ => Ev.now _) (fun c1 => Ev.ite (fun _ => Ev.now _) (fun c2 => Ev.ite (fun _ => Ev.now _) (fun c3 => Ev.ite (fun _ => Ev.now _) (fun c4 => Ev.ite (fun _ => Ev.now _) (fun c5 => ?_)))))
    exact absurd ⟨by omega, by omega, by omega, by omega, by omega⟩ c
def troot (L : List T36) : Int := allD [sm L 0 5 0, sm L 1 5 0, sm L 2 5 0, sm L 3 5 0, sm L 4 5 0, sm L 5 5 0, sm L 6 5 0, sm L 7 5 0]
theorem root8 (L : List T36) : (List.range 8).map (fun j : Nat => sm L (j : Int) 5 0) = [sm L 0 5 0, sm L 1 5 0, sm L 2 5 0, sm L 3 5 0, sm L 4 5 0, sm L 5 5 0, sm L 6 5 0, sm L 7 5 0] := rfl
theorem map_range_succ (f : Nat → Int) (i : Nat) : (List.range (i + 1)).map f = (List.range i).map f ++ [f i] := by rw [List.range_succ, List.map_append]; rfl
theorem Root_t_ev {t : T97} {L : List T36} (h : TI t L) : Ev (fun k => tree_Tree_Root k t) (troot L) := by
  have := Ev.count (F := fun k (s : List Int) i => tree_Tree_Root_l0 t k s i) (r := (List.range 8).map fun j : Nat => sm L (j : Int) 5 0) (fun i => (List.range i).map fun j : Nat => sm L (j : Int) 5 0) 8 (fun i hi r H => by
    rw [map_range_succ] at H
    refine Ev.step (g := fun k => (tree_Tree_Sum k t (i : Int) 0 0).bind fun t8 => if ((List.range i).map fun j : Nat => sm L (j : Int) 5 0).length + ([t8.1] : List Int).length ≤ 1073741824 then tree_Tree_Root_l0 t k (((List.range i).map fun j : Nat => sm L (j : Int) 5 0) ++ ([t8.1] : List Int)) ((i + 1 : Nat) : Int) else none) (fun k => ?_) (Ev.bind ((Sum_t_ev h (i : Int) 0 0).is (if_pos ⟨by omega, by omega, by omega, by omega, by omega, by decide⟩)) (Ev.pos (by simp; omega) H))
    rw [tree_Tree_Root_l0, if_pos (by omega), i64w (x := (i : Int) + 1) (by omega)]; rfl) (by
    refine Ev.step (g := fun _ => some _) (fun k => ?_) (Ev.now _)
    rw [tree_Tree_Root_l0, if_neg (by omega)])
  rw [root8] at this
  have hall := all_ev [sm L 0 5 0, sm L 1 5 0, sm L 2 5 0, sm L 3 5 0, sm L 4 5 0, sm L 5 5 0, sm L 6 5 0, sm L 7 5 0] (by simp)
  exact Ev.bind this (Ev.bind hall (Ev.now _))
end Go.Proofs.YtajhihpaccggdaaDoor.Pure
