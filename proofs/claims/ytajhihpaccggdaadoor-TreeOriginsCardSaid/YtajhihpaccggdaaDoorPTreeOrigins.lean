/- The plain law of TreeOrigins. -/
import Derived.Test.YtajhihpaccggdaaDoorLTreeOrigins
import Derived.Test.YtajhihpaccggdaaDoorPTree4
namespace Go.Proofs.YtajhihpaccggdaaDoor.Pure
open Go Go.Gg Go.Gp Gf
set_option linter.unusedVariables false
set_option linter.unusedSimpArgs false
theorem puts_mem (l : List T36) : ∀ (L : List T36) (r : T36), r ∈ l.foldl rput L → r ∈ L ∨ r ∈ l := by
  induction l with
  | nil => intro L r h; exact .inl h
  | cons x l ih =>
    intro L r h
    rcases ih (rput L x) r h with h | h
    · unfold rput at h
      split at h
      · rcases List.mem_append.1 h with h | h
        · exact .inl h
        · simp at h; subst h; exact .inr (by simp)
      · exact .inl h
    · exact .inr (List.mem_cons_of_mem _ h)
theorem mayKey_some (k : T32) : grapevineref4_MayKey k = some (decide (0 ≤ k.f0 ∧ k.f0 < 8 ∧ 1 ≤ k.f1 ∧ k.f1 ≤ 1023)) := by
  unfold grapevineref4_MayKey
  by_cases h : 0 ≤ k.f0 <;> by_cases h1 : k.f0 < 8 <;> by_cases h2 : 1 ≤ k.f1 <;> by_cases h3 : k.f1 ≤ 1023 <;> simp [h, h1, h2, h3]
def onlyO (L : List T36) (o : Int) : List T36 := L.filter fun r => decide (r.f0 = o)
theorem cnt_only (L : List T36) (o l i : Int) : cnt L o l i = cnt (onlyO L o) o l i := by
  unfold cnt onlyO
  rw [List.countP_filter]
  congr 1
  funext r
  unfold inr
  rw [← Bool.decide_and, decide_eq_decide]
  exact ⟨fun h => ⟨h, h.1⟩, fun h => h.1⟩
theorem find_only (L : List T36) (o i : Int) : (L.find? fun r => decide (key r = ⟨o, i⟩)) = ((onlyO L o).find? fun r => decide (key r = ⟨o, i⟩)) := by
  unfold onlyO
  rw [List.find?_filter]
  congr 1
  funext r
  rw [decide_eq_decide]
  simp only [decide_eq_true_eq]
  unfold key
  rw [T32.mk.injEq]
  exact ⟨fun h => ⟨h.1, h⟩, fun h => h.2⟩
theorem sm_only {L M : List T36} {o : Int} (h : onlyO L o = onlyO M o) : ∀ (d : Nat) (i : Int), sm L o d i = sm M o d i := by
  intro d
  induction d with
  | zero => intro i; simp only [sm]; rw [find_only L, find_only M, h]
  | succ d ih => intro i; simp only [sm, ih]; rw [cnt_only L, cnt_only M, h]
theorem sm_nil (o : Int) : ∀ (d : Nat) (i : Int), sm [] o d i = 0
  | 0, i => rfl
  | d + 1, i => rfl
/-- one origin's keys are dropped -/
def odrop (o : Int) (L : List T36) (r : T36) : List T36 := if r.f0 = o then rdrop L (key r) else L
def odropT (o : Int) (t : T97) (r : T36) : T97 := if r.f0 = o then tdrop t (key r) else t
theorem odrops_TI (o : Int) (l : List T36) {t : T97} {L : List T36} (h : TI t L) : TI (l.foldl (odropT o) t) (l.foldl (odrop o) L) := by
  induction l generalizing t L with
  | nil => exact h
  | cons x l ih =>
    refine ih ?_
    unfold odrop odropT
    by_cases e : x.f0 = o
    · rw [if_pos e, if_pos e]; exact h.drop _
    · rw [if_neg e, if_neg e]; exact h
theorem odrops_sub (o : Int) (l : List T36) (L : List T36) : (l.foldl (odrop o) L).Sublist L := by
  induction l generalizing L with
  | nil => exact .refl _
  | cons x l ih =>
    refine (ih _).trans ?_
    unfold odrop
    by_cases e : x.f0 = o
    · rw [if_pos e]; exact rdrop_sub L _
    · rw [if_neg e]; exact .refl _
theorem odrops_other {o p : Int} (hp : p ≠ o) (l : List T36) (L : List T36) : onlyO (l.foldl (odrop o) L) p = onlyO L p := by
  induction l generalizing L with
  | nil => rfl
  | cons x l ih =>
    rw [List.foldl_cons, ih]
    unfold odrop
    by_cases e : x.f0 = o
    · rw [if_pos e]
      unfold onlyO rdrop
      rw [List.filter_filter]
      congr 1
      funext r
      rw [← Bool.decide_and, decide_eq_decide]
      refine ⟨fun h => h.1, fun h => ⟨h, fun hk => hp ?_⟩⟩
      have : r.f0 = x.f0 := congrArg T32.f0 hk
      rw [← h, this, e]
    · rw [if_neg e]
theorem odrops_gone (o : Int) (l : List T36) : ∀ (L : List T36), (∀ r ∈ L, r.f0 = o → r ∈ l) → onlyO (l.foldl (odrop o) L) o = [] := by
  intro L h
  have key1 : ∀ (l : List T36) (L : List T36) (r : T36), r ∈ l → r.f0 = o → r ∉ l.foldl (odrop o) L := by
    intro l
    induction l with
    | nil => intro L r hr; cases hr
    | cons x l ih =>
      intro L r hr ho
      rcases List.mem_cons.1 hr with rfl | hr
      · intro hm
        have hm := (odrops_sub o l _).subset hm
        unfold odrop at hm
        rw [if_pos ho] at hm
        have := (List.mem_filter.1 hm).2
        simp at this
      · exact ih _ r hr ho
  refine List.filter_eq_nil_iff.2 fun r hr ho => ?_
  have ho := of_decide_eq_true ho
  exact key1 l L r (h r ((odrops_sub o l L).subset hr) ho) ho hr
theorem was8_ev {t : T97} {L : List T36} (h : TI t L) (a2 a3 n : Int) : Ev (fun k => grapevinelaw12_TreeOrigins_l0 a2 a3 (n, t) k [] 0) ((List.range 8).map fun j : Nat => (tsum L (j : Int) a2 a3).1) := by
  exact Ev.count (F := fun k (s : List Int) i => grapevinelaw12_TreeOrigins_l0 a2 a3 (n, t) k s i) (fun i => (List.range i).map fun j : Nat => (tsum L (j : Int) a2 a3).1) 8 (fun i hi r H => by
    rw [map_range_succ] at H
    refine Ev.step (g := fun k => (tree_Tree_Sum k t (i : Int) a2 a3).bind fun t8 => if ((List.range i).map fun j : Nat => (tsum L (j : Int) a2 a3).1).length + ([t8.1] : List Int).length ≤ 1073741824 then grapevinelaw12_TreeOrigins_l0 a2 a3 (n, t) k (((List.range i).map fun j : Nat => (tsum L (j : Int) a2 a3).1) ++ ([t8.1] : List Int)) ((i + 1 : Nat) : Int) else none) (fun k => ?_) (Ev.bind (Sum_t_ev h (i : Int) a2 a3) (Ev.pos (by simp; omega) H))
    rw [grapevinelaw12_TreeOrigins_l0, if_pos (by omega), i64w (x := (i : Int) + 1) (by omega)]; rfl) (by
    refine Ev.step (g := fun _ => some _) (fun k => ?_) (Ev.now _)
    rw [grapevinelaw12_TreeOrigins_l0, if_neg (by omega)])
theorem TreeOrigins : TreeOrigins_Pure := by
  intro l a1 a2 a3 wl w1 w2 w3
  refine Ev.rounds ?_
  unfold grapevinelaw12_TreeOrigins
  obtain ⟨g, hg, hgl⟩ := Great_ev l 20 (by omega)
  refine Ev.bind hg (Ev.ite (fun _ => Ev.bind awake_ev (Ev.now _)) (fun hne => ?_))
  have hl := hgl (by simpa using hne)
  simp only [tree_New, Option.bind_some]
  have hT := TI.empty.puts l
  have hp := Put_t_ev TI.empty l (by simp; omega)
  have hpm := put_many l []
  obtain ⟨t, ht⟩ : ∃ t, t = l.foldl tput ⟨[], []⟩ := ⟨_, rfl⟩
  obtain ⟨L, hL⟩ : ∃ L, L = l.foldl rput [] := ⟨_, rfl⟩
  have hmem := puts_mem l []
  rw [← ht, ← hL] at hT hp
  rw [← hL] at hmem hpm
  simp only [List.length_nil, Nat.zero_add] at hpm
  obtain ⟨o, ho, ho0, ho8⟩ := low_ev a1 8 (by omega) (by omega)
  refine Ev.bind hp ?_
  simp only [ho, Option.bind_some]
  refine Ev.bind (was8_ev hT a2 a3 _) ?_
  simp only [Len_some hT, Option.bind_some]
  have hD := fun i => odrops_TI o (l.take i) hT
  have hDl := fun i => (odrops_sub o (l.take i) L).length_le
  have hloop := Ev.count (F := fun k (s : Int × T97) i => grapevinelaw12_TreeOrigins_l1 l o k s.1 i s.2) (r := ((L.length : Int) - ((l.foldl (odrop o) L).length : Int), l.foldl (odropT o) t)) (fun i => ((L.length : Int) - (((l.take i).foldl (odrop o) L).length : Int), (l.take i).foldl (odropT o) t)) l.length (fun i hi r H => by
    obtain ⟨x, hx⟩ : ∃ x, x = l.getD i z36 := ⟨_, rfl⟩
    have hT' := hD i
    have hl' := hDl i
    rw [foldl_take (odrop o) L l z36 hi, foldl_take (odropT o) t l z36 hi, ← hx] at H
    obtain ⟨t', ht'⟩ : ∃ t', t' = (l.take i).foldl (odropT o) t := ⟨_, rfl⟩
    obtain ⟨L', hL'⟩ : ∃ L', L' = (l.take i).foldl (odrop o) L := ⟨_, rfl⟩
    simp only [← ht', ← hL'] at H hT' hl' ⊢
    have hc : 0 ≤ (i : Int) ∧ (i : Int) < (l.length : Int) := by omega
    have e1 : IntKind.i64.wrap ((i : Int) + 1) = ((i + 1 : Nat) : Int) := by rw [i64w (by omega)]; omega
    refine Ev.step (fun k => by rw [grapevinelaw12_TreeOrigins_l1, if_pos hc.2, if_pos hc, Int.toNat_natCast, ← hx, e1]) ?_
    by_cases e : x.f0 = o
    · have eL : odrop o L' x = [key x].foldl rdrop L' := if_pos e
      have eT : odropT o t' x = [key x].foldl tdrop t' := if_pos e
      rw [eL, eT] at H
      have hdl := drops_len [key x] L'
      refine Ev.pos e (Ev.pos hc (Ev.bind (Drop_t_ev hT' [key x] (by omega) (by simp)) ?_))
      simp only
      rw [i64w (by omega), show (L.length : Int) - (L'.length : Int) + ((L'.length : Int) - (([key x].foldl rdrop L').length : Int)) = (L.length : Int) - (([key x].foldl rdrop L').length : Int) by omega]
      exact H
    · have eL : odrop o L' x = L' := if_neg e
      have eT : odropT o t' x = t' := if_neg e
      rw [eL, eT] at H
      exact Ev.neg e H) (by
    refine Ev.step (g := fun _ => some _) (fun k => ?_) (Ev.now _)
    rw [grapevinelaw12_TreeOrigins_l1, if_neg (by omega), List.take_of_length_le (Nat.le_refl _)])
  simp only [List.take_zero, List.foldl_nil, Int.sub_self] at hloop
  have hT2 := hD l.length
  have hl2 := hDl l.length
  rw [List.take_of_length_le (Nat.le_refl _)] at hT2 hl2
  have hother := fun p (hp : p ≠ o) => odrops_other hp l L
  have hgone := odrops_gone o l L (fun r hr _ => (hmem r hr).elim (fun h => by cases h) id)
  obtain ⟨t2, ht2⟩ : ∃ t2, t2 = l.foldl (odropT o) t := ⟨_, rfl⟩
  obtain ⟨M, hM⟩ : ∃ M, M = l.foldl (odrop o) L := ⟨_, rfl⟩
  rw [← ht2, ← hM] at hloop hT2
  rw [← hM] at hl2 hgone
  simp only [← hM] at hother
  refine Ev.bind hloop ?_
  have hz : ∀ d i, sm M o d i = 0 := fun d i => by rw [sm_only (M := []) (by rw [hgone]; rfl), sm_nil]
  have htz : ∀ l i, (tsum M o l i).1 = 0 := fun l i => by unfold tsum; split <;> simp [hz]
  have hsame : ∀ p, p ≠ o → ∀ l i, tsum M p l i = tsum L p l i := fun p hp l i => by unfold tsum; rw [sm_only (hother p hp)]
  have h8 : Ev (fun k => grapevinelaw12_TreeOrigins_l2 a2 a3 o ((List.range 8).map fun j : Nat => (tsum L (j : Int) a2 a3).1) (((L.length : Int) - (M.length : Int), t2) : Int × T97) k 0) (Sum.inr ()) := by
    exact Ev.count (σ := Unit) (F := fun k _ i => grapevinelaw12_TreeOrigins_l2 a2 a3 o ((List.range 8).map fun j : Nat => (tsum L (j : Int) a2 a3).1) (((L.length : Int) - (M.length : Int), t2) : Int × T97) k i) (r := Sum.inr ()) (fun _ => ()) 8 (fun i hi r H => by
      have e1 : IntKind.i64.wrap ((i : Int) + 1) = ((i + 1 : Nat) : Int) := by rw [i64w (by omega)]; omega
      refine Ev.step (fun k => by rw [grapevinelaw12_TreeOrigins_l2, if_pos (show (i : Int) < 8 by omega), e1]) (Ev.bind (Sum_t_ev hT2 (i : Int) a2 a3) (Ev.bind (b := false) ((Ev.now _).congr fun k => ?_) (Ev.neg Bool.false_ne_true H)))
      by_cases e : (i : Int) = o
      · rw [if_neg (not_not_intro e), if_pos e, e, htz]; rfl
      · have hg : ((List.range 8).map fun j : Nat => (tsum L (j : Int) a2 a3).1).getD i 0 = (tsum L (i : Int) a2 a3).1 := by
          rw [getD_eq _ _ (by simp; omega)]; simp
        rw [if_pos e, if_pos ⟨by omega, by simp; omega⟩, Int.toNat_natCast, hg, hsame _ e, if_neg (by simp), if_neg e]) (by
      refine Ev.step (g := fun _ => some (Sum.inr ())) (fun k => ?_) (Ev.now _)
      rw [grapevinelaw12_TreeOrigins_l2, if_neg (by omega)])
  refine Ev.bind h8 ?_
  have hth : there o 0 0 := ⟨ho0, ho8, by omega, by omega, by omega, by decide⟩
  refine Ev.bind ((Sum_t_ev hT2 o 0 0).is (if_pos hth)) (Ev.bind (b := true) (Ev.pos rfl (Ev.pos (hz _ _) ?_)) (Ev.now _))
  simp only [Len_some hT2, Option.bind_some]
  rw [i64w (by omega)]
  refine Ev.pos (by omega) (Ev.ite (fun _ => Ev.bind awake_ev (Ev.now _)) (fun hgt => ?_))
  have hM0 : M = [] := List.eq_nil_of_length_eq_zero (by omega)
  rw [hM0] at hT2
  exact Ev.bind ((Root_t_ev hT2).is no_root) (Ev.pos rfl (Ev.bind awake_ev (Ev.now _)))
end Go.Proofs.YtajhihpaccggdaaDoor.Pure
