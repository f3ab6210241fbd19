/- Trees compared; what every program answers that is one; acts. -/
import Derived.Test.YtajhihpaccggdaaDoorF0
import Derived.Test.YtajhihpaccggdaaDoorF2
import Derived.Test.YtajhihpaccggdaaDoorPTree3
namespace Go.Proofs.YtajhihpaccggdaaDoor.Pure
open Go Go.Gg Go.Gp Gf
set_option linter.unusedVariables false
set_option linter.unusedSimpArgs false

theorem Len_some {t : T97} {L : List T36} (h : TI t L) : tree_Tree_Len t = some (L.length : Int) := by
  unfold tree_Tree_Len; rw [h.lv, List.length_map]
theorem Same_l_ev {t u : T97} {L M : List T36} (h : TI t L) (g : TI u M) (hs : ∀ r ∈ L, r ∈ M) : ∀ (n : Nat) (seen : List T32), (t.f0.filter fun p => decide (p.1 ∉ seen)).length ≤ n → ∀ k, n + 1 ≤ k → tree_Same_l0 t u k seen = some (Sum.inr ()) := by
  intro n
  induction n with
  | zero =>
    intro seen hn k hk
    obtain ⟨k, rfl⟩ : ∃ j, k = j + 1 := ⟨k - 1, by omega⟩
    rw [tree_Same_l0]
    refine pickAll_over fun p hp => Classical.byContradiction fun hns => ?_
    have : p ∈ t.f0.filter fun p => decide (p.1 ∉ seen) := List.mem_filter.2 ⟨hp, decide_eq_true hns⟩
    rw [List.eq_nil_of_length_eq_zero (l := t.f0.filter fun p => decide (p.1 ∉ seen)) (by omega)] at this; cases this
  | succ n ih =>
    intro seen hn k hk
    obtain ⟨k, rfl⟩ : ∃ j, k = j + 1 := ⟨k - 1, by omega⟩
    rw [tree_Same_l0]
    refine pickAll_all (fun _ => rfl) fun p hp hns => ?_
    have hless : (t.f0.filter fun q => decide (q.1 ∉ p.1 :: seen)).length ≤ n := by
      have e : (t.f0.filter fun q => decide (q.1 ∉ p.1 :: seen)) = (t.f0.filter fun q => decide (q.1 ∉ seen)).filter fun q => decide (q.1 ≠ p.1) := by
        rw [List.filter_filter]
        congr 1
        funext q
        rw [← Bool.decide_and, decide_eq_decide, List.mem_cons, not_or]
      have hm : p ∈ t.f0.filter fun q => decide (q.1 ∉ seen) := List.mem_filter.2 ⟨hp, decide_eq_true hns⟩
      rw [e]
      have hlt : ((t.f0.filter fun q => decide (q.1 ∉ seen)).filter fun q => decide (q.1 ≠ p.1)).length < (t.f0.filter fun q => decide (q.1 ∉ seen)).length := by
        rcases Nat.lt_or_eq_of_le (List.length_filter_le (fun q : T32 × T103 => decide (q.1 ≠ p.1)) (t.f0.filter fun q => decide (q.1 ∉ seen))) with h | h
        · exact h
        · have := List.length_filter_eq_length_iff.1 h p hm
          simp at this
      omega
    rw [h.lv] at hp
    obtain ⟨r, hr, rfl⟩ := List.mem_map.1 hp
    have hrM := hs r hr
    have hfind : (M.find? fun x => decide (key x = key r)) = some r := by
      cases hf : (M.find? fun x => decide (key x = key r)) with
      | none => exact absurd (List.mem_map.2 ⟨r, hrM, rfl⟩) (find_none.1 hf)
      | some y =>
        have hy := List.mem_of_find?_eq_some hf
        have hk := List.find?_some hf
        have hk : key y = key r := of_decide_eq_true hk
        obtain ⟨a, ha, ea⟩ := List.mem_iff_getElem.1 hy
        obtain ⟨b, hb, eb⟩ := List.mem_iff_getElem.1 hrM
        have : a = b := nodup_at g.nd (by simpa using ha) (by simpa using hb) (by simp [ea, eb, hk])
        subst this; rw [← ea, ← eb]
    have hg : mget u.f0 (key r) = some (leafOf r) := by rw [g.get, hfind]; rfl
    simp only [hg, Option.isSome_some, Bool.not_true, Bool.false_eq_true, if_false, record_Same, Option.getD_some, Option.bind_some, decide_true]
    exact ih _ hless k (by omega)
theorem Same_ev {t u : T97} {L M : List T36} (h : TI t L) (g : TI u M) (hs : ∀ r ∈ L, r ∈ M) (hl : L.length = M.length) : Ev (fun k => tree_Same k t u) true := by
  refine Ev.bind ⟨_, fun k hk => Same_l_ev h g hs _ [] (Nat.le_refl _) k hk⟩ ?_
  simp only [Len_some h, Len_some g, Option.bind_some, hl]
  exact (Ev.now _).is (by simp)
def oneR : T36 := ⟨0, 5, 0, 0, ⟨#[97]⟩⟩
theorem oneR_may : Mayr oneR := ⟨by simp [oneR], by simp [oneR], by simp [oneR, ByteArray.size], by decide +kernel⟩
theorem one_puts : [oneR, oneR].foldl rput [] = [oneR] := by
  have e1 : rput [] oneR = [oneR] := if_pos ⟨oneR_may, by simp⟩
  have e2 : rput [oneR] oneR = [oneR] := if_neg (fun h => h.2 (by simp))
  simp only [List.foldl_cons, List.foldl_nil, e1, e2]
theorem one_drop : [key oneR].foldl rdrop [oneR] = [] := by decide +kernel
theorem one_sum : (sm [oneR] 0 0 5 = 0) = False := by rw [eq_iff_iff]; exact ⟨fun h => absurd h (by decide +kernel), fun h => h.elim⟩
theorem one_root : (troot [oneR] = 0) = False := by rw [eq_iff_iff]; exact ⟨fun h => absurd h (by decide +kernel), fun h => h.elim⟩
theorem no_root : troot [] = 0 := by decide +kernel
theorem awake_ev : Ev (fun k => grapevinelaw12_awake k) true := by
  unfold grapevinelaw12_awake tree_New grapevinelaw12_one
  simp only [Option.bind_some]
  have h1 := TI.empty.puts [oneR, oneR]
  rw [one_puts] at h1
  have p1 := Put_t_ev TI.empty [oneR, oneR] (by simp)
  rw [one_puts] at p1
  obtain ⟨t1, ht1⟩ : ∃ t1, t1 = [oneR, oneR].foldl tput ⟨[], []⟩ := ⟨_, rfl⟩
  rw [← ht1] at h1 p1
  have s1 : tsum [oneR] 0 5 5 = (sm [oneR] 0 0 5, true) := if_pos (by decide)
  have s2 : tsum [oneR] 0 0 1 = (0, false) := if_neg (by decide)
  refine Ev.bind p1 ?_
  simp only [Len_some h1, Option.bind_some]
  refine Ev.bind ((Sum_t_ev h1 0 5 5).is s1) (Ev.bind ((Sum_t_ev h1 0 0 1).is s2) ?_)
  have d1 := h1.drops [key oneR]
  rw [one_drop] at d1
  have dv := Drop_t_ev h1 [key oneR] (by simp) (by simp)
  rw [one_drop] at dv
  refine Ev.bind (b := (true, [key oneR].foldl tdrop t1)) ?_ (Ev.now _)
  refine Ev.pos (by simp) (Ev.pos (by simp) (Ev.pos (by rw [one_sum]; simp) (Ev.pos rfl (Ev.pos rfl (Ev.bind (Root_t_ev h1) (Ev.pos (by rw [one_root]; simp) (Ev.bind dv (Ev.pos (by simp) ?_))))))))
  refine Ev.bind ((Root_t_ev d1).is no_root) (Ev.pos rfl (Ev.bind (Same_ev d1 TI.empty (by simp) rfl) (Ev.now _)))
/-! ## Acts -/
def recA (x : T38) : T36 := ⟨x.f1, x.f2, x.f3, x.f4, x.f5⟩
theorem great_ev (l : List T38) (m : Int) (hm : 0 ≤ m ∧ m < 1000) : ∃ r, Ev (fun k => grapevinelaw12_great k l m) r ∧ (r = false → (l.length : Int) ≤ m) := by
  by_cases h : (l.length : Int) ≤ m
  case neg =>
    refine ⟨true, ?_, fun e => by cases e⟩
    refine Ev.bind (b := Sum.inr ()) (Ev.step (g := fun _ => some (Sum.inr ())) (fun k => ?_) (Ev.now _)) ((Ev.now _).is (decide_eq_true (by omega)))
    rw [grapevinelaw12_great_l0]
    by_cases h0 : (0 : Int) < (l.length : Int)
    · rw [if_pos h0, decide_eq_false h]; rfl
    · rw [if_neg h0]; rfl
  · obtain ⟨r, hr, hE⟩ := Ev.loop (F := fun k (s : Int) => grapevinelaw12_great_l0 l m k s) (fun s n => 0 ≤ s ∧ s + n = l.length) (fun r => r = Sum.inl true ∨ r = Sum.inr ()) (fun s n hI => by
      obtain ⟨h0, hn⟩ := hI
      by_cases h1 : s < (l.length : Int)
      · by_cases h2 : (((l.getD s.toNat z38).f5).size : Int) > 300
        · refine .inl ⟨Sum.inl true, .inl rfl, Ev.step (g := fun _ => some (Sum.inl true)) (fun k => ?_) (Ev.now _)⟩
          rw [grapevinelaw12_great_l0, if_pos h1, decide_eq_true h]
          simp only [Option.bind_some, if_true]
          rw [if_pos ⟨h0, h1⟩, if_pos h2]
        · refine .inr ⟨s + 1, n - 1, by omega, ⟨by omega, by omega⟩, fun r H => Ev.step (fun k => ?_) H⟩
          rw [grapevinelaw12_great_l0, if_pos h1, decide_eq_true h]
          simp only [Option.bind_some, if_true]
          rw [if_pos ⟨h0, h1⟩, if_neg h2, i64w (by omega)]
      · refine .inl ⟨Sum.inr (), .inr rfl, Ev.step (g := fun _ => some (Sum.inr ())) (fun k => ?_) (Ev.now _)⟩
        rw [grapevinelaw12_great_l0, if_neg h1]; rfl) 0 l.length ⟨by omega, by omega⟩
    rcases hr with rfl | rfl
    · exact ⟨true, Ev.bind hE (Ev.now _), fun e => by cases e⟩
    · exact ⟨false, Ev.bind hE ((Ev.now _).is (decide_eq_false (by omega))), fun _ => h⟩
end Go.Proofs.YtajhihpaccggdaaDoor.Pure
