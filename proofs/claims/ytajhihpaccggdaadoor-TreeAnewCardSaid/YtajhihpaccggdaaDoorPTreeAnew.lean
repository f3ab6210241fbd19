/- The plain law of TreeAnew. -/
import Derived.Test.YtajhihpaccggdaaDoorLTreeAnew
import Derived.Test.YtajhihpaccggdaaDoorPTree4
namespace Go.Proofs.YtajhihpaccggdaaDoor.Pure
open Go Go.Gg Go.Gp Gf
set_option linter.unusedVariables false
set_option linter.unusedSimpArgs false
def kB (x : T38) : T32 := ⟨x.f1, x.f2⟩
def bL (L : List T36) (x : T38) : List T36 := if x.f0 = true then rdrop L (kB x) else rput L (recA x)
def bT (t : T97) (x : T38) : T97 := if x.f0 = true then tdrop t (kB x) else tput t (recA x)
theorem b_TI (l : List T38) {t : T97} {L : List T36} (h : TI t L) : TI (l.foldl bT t) (l.foldl bL L) := by
  induction l generalizing t L with
  | nil => exact h
  | cons x l ih =>
    refine ih ?_
    unfold bT bL
    by_cases e : x.f0 = true
    · rw [if_pos e, if_pos e]; exact h.drop _
    · rw [if_neg e, if_neg e]; exact h.put _
theorem b_len (l : List T38) (L : List T36) : (l.foldl bL L).length ≤ L.length + l.length := by
  induction l generalizing L with
  | nil => simp
  | cons x l ih =>
    have h1 := ih (bL L x)
    have h2 : (bL L x).length ≤ L.length + 1 := by
      unfold bL
      by_cases e : x.f0 = true
      · rw [if_pos e]; have := rdrop_len L (kB x); omega
      · rw [if_neg e]; exact (rput_len L (recA x)).2
    simp only [List.foldl_cons, List.length_cons]; omega
/-- the same records, in whatever order: the same sums -/
theorem cnt_perm {L M : List T36} (h : L.Perm M) (o l i : Int) : cnt L o l i = cnt M o l i := h.countP_eq _
theorem find_perm {L M : List T36} (h : L.Perm M) (hn : (L.map key).Nodup) (k : T32) : (L.find? fun r => decide (key r = k)) = (M.find? fun r => decide (key r = k)) := by
  have hnM : (M.map key).Nodup := (h.map key).nodup_iff.1 hn
  cases hf : (L.find? fun r => decide (key r = k)) with
  | none =>
    have := find_none.1 hf
    exact (find_none.2 fun hm => this ((h.map key).mem_iff.2 hm)).symm
  | some r =>
    have hr := List.mem_of_find?_eq_some hf
    have hk := List.find?_some hf
    have hk : key r = k := of_decide_eq_true hk
    cases hg : (M.find? fun r => decide (key r = k)) with
    | none => exact absurd (List.mem_map.2 ⟨r, h.mem_iff.1 hr, hk⟩) (find_none.1 hg)
    | some y =>
      have hy := List.mem_of_find?_eq_some hg
      have hky := List.find?_some hg
      have hky : key y = k := of_decide_eq_true hky
      have hrM := h.mem_iff.1 hr
      obtain ⟨a, ha, ea⟩ := List.mem_iff_getElem.1 hy
      obtain ⟨b, hb, eb⟩ := List.mem_iff_getElem.1 hrM
      have : a = b := nodup_at hnM (by simpa using ha) (by simpa using hb) (by simp [ea, eb, hk, hky])
      subst this; rw [← ea, ← eb]
theorem sm_perm {L M : List T36} (h : L.Perm M) (hn : (L.map key).Nodup) (o : Int) : ∀ (d : Nat) (i : Int), sm L o d i = sm M o d i := by
  intro d
  induction d with
  | zero => intro i; simp only [sm, find_perm h hn]
  | succ d ih => intro i; simp only [sm, cnt_perm h, ih]
theorem tsum_perm {L M : List T36} (h : L.Perm M) (hn : (L.map key).Nodup) (o l i : Int) : tsum L o l i = tsum M o l i := by unfold tsum; rw [sm_perm h hn]
theorem troot_perm {L M : List T36} (h : L.Perm M) (hn : (L.map key).Nodup) : troot L = troot M := by unfold troot; simp only [sm_perm h hn]
theorem TreeAnew : TreeAnew_Pure := by
  intro l a1 a2 a3 wl w1 w2 w3
  refine Ev.rounds ?_
  unfold grapevinelaw12_TreeAnew
  obtain ⟨g, hg, hgl⟩ := great_ev l 30 (by omega)
  refine Ev.bind hg (Ev.ite (fun _ => Ev.bind awake_ev (Ev.now _)) (fun hne => ?_))
  have hl := hgl (by simpa using hne)
  simp only [tree_New, Option.bind_some]
  have hacts : ∀ i, TI ((l.take i).foldl bT ⟨[], []⟩) ((l.take i).foldl bL []) := fun i => b_TI _ TI.empty
  have hlen : ∀ i, i ≤ l.length → ((l.take i).foldl bL []).length ≤ 100 := fun i hi => by
    have := b_len (l.take i) []
    rw [List.length_take] at this
    simp at this; omega
  have hloop := Ev.count (F := fun k (s : T30 × T97) i => grapevinelaw12_TreeAnew_l0 l k i s.1 s.2) (r := ((⟨l.foldl bL []⟩ : T30), l.foldl bT ⟨[], []⟩)) (fun i => ((⟨(l.take i).foldl bL []⟩ : T30), (l.take i).foldl bT ⟨[], []⟩)) l.length (fun i hi r H => by
    obtain ⟨x, hx⟩ : ∃ x, x = l.getD i z38 := ⟨_, rfl⟩
    have hT := hacts i
    have hn := hlen i (by omega)
    rw [foldl_take bL [] l z38 hi, foldl_take bT ⟨[], []⟩ l z38 hi, ← hx] at H
    obtain ⟨t, ht⟩ : ∃ t, t = (l.take i).foldl bT ⟨[], []⟩ := ⟨_, rfl⟩
    obtain ⟨L, hL⟩ : ∃ L, L = (l.take i).foldl bL [] := ⟨_, rfl⟩
    simp only [← ht, ← hL] at H hT hn ⊢
    have hc : 0 ≤ (i : Int) ∧ (i : Int) < (l.length : Int) := by omega
    refine Ev.step (fun k => by rw [grapevinelaw12_TreeAnew_l0, if_pos hc.2, if_pos hc, Int.toNat_natCast, ← hx]) ?_
    rw [i64w (x := (i : Int) + 1) (by omega)]
    by_cases e : x.f0 = true
    · have eL : bL L x = [kB x].foldl rdrop L := if_pos e
      have eT : bT t x = [kB x].foldl tdrop t := if_pos e
      rw [eL, eT] at H
      exact Ev.pos e (Ev.pos hc (Ev.bind (Drop_t_ev hT [kB x] (by omega) (by simp)) (Ev.pos hc (Ev.bind (Drop_r_ev hT.nd [kB x] (by omega) (by simp)) H))))
    · have eL : bL L x = [recA x].foldl rput L := if_neg e
      have eT : bT t x = [recA x].foldl tput t := if_neg e
      rw [eL, eT] at H
      exact Ev.neg e (Ev.pos hc (Ev.bind (Put_t_ev hT [recA x] (by simp; omega)) (Ev.pos hc (Ev.bind (Put_r_ev L [recA x] (by simp; omega)) H))))) (by
    refine Ev.step (g := fun _ => some _) (fun k => ?_) (Ev.now _)
    rw [grapevinelaw12_TreeAnew_l0, if_neg (by omega), List.take_of_length_le (Nat.le_refl _)])
  have hT := hacts l.length
  have hn := hlen l.length (Nat.le_refl _)
  rw [List.take_of_length_le (Nat.le_refl _)] at hT hn
  obtain ⟨t, ht⟩ : ∃ t, t = l.foldl bT ⟨[], []⟩ := ⟨_, rfl⟩
  obtain ⟨L, hL⟩ : ∃ L, L = l.foldl bL [] := ⟨_, rfl⟩
  rw [← ht, ← hL] at hloop hT
  rw [← hL] at hn
  refine Ev.bind hloop ?_
  have hv : IntKind.i64.wrap ((((⟨L⟩ : T30), t).1.f0.length : Int) - 1) = (L.length : Int) - 1 := by simp only; rw [i64w (by omega)]
  rw [hv]
  -- the records, put from the last one on
  have hback : ∀ (n : Nat) (u : T97) (M : List T36), n ≤ L.length → M = (L.drop n).reverse → TI u M → ∃ u', TI u' L.reverse ∧ Ev (fun k => grapevinelaw12_TreeAnew_l1 (⟨L⟩, t) k ((n : Int) - 1) u) (Sum.inr u') := by
    intro n
    induction n with
    | zero =>
      intro u M _ hM hu
      rw [List.drop_zero] at hM
      exact ⟨u, hM ▸ hu, Ev.step (g := fun _ => some (Sum.inr u)) (fun k => by rw [grapevinelaw12_TreeAnew_l1, if_neg (by omega)]) (Ev.now _)⟩
    | succ n ih =>
      intro u M hnl hM hu
      have hd := drop_getD L z36 (i := n) (by omega)
      obtain ⟨x, hx⟩ : ∃ x, x = L.getD n z36 := ⟨_, rfl⟩
      rw [← hx] at hd
      have hMx : (L.drop n).reverse = M ++ [x] := by rw [hd, List.reverse_cons, hM]
      have hxm : Mayr x := hT.may x (hx ▸ getD_mem L z36 (by omega))
      have hxn : key x ∉ M.map key := by
        have := hT.nd
        rw [← List.take_append_drop n L, List.map_append, hd] at this
        have := (List.nodup_append.1 this).2.1
        rw [List.map_cons, List.nodup_cons] at this
        intro hm
        rw [hM, List.map_reverse, List.mem_reverse] at hm
        exact this.1 hm
      have hput : [x].foldl rput M = M ++ [x] := if_pos ⟨hxm, hxn⟩
      have hML : M.length ≤ 100 := by rw [hM]; simp; omega
      have hu' := hu.puts [x]
      rw [hput, ← hMx] at hu'
      obtain ⟨u', hu1, hu2⟩ := ih _ _ (by omega) rfl hu'
      have hp := Put_t_ev hu [x] (by simp; omega)
      rw [hput] at hp
      refine ⟨u', hu1, Ev.step (fun k => by rw [grapevinelaw12_TreeAnew_l1]) (Ev.pos (by omega) (Ev.pos (by simp only; omega) ?_))⟩
      have en : (((n + 1 : Nat) : Int) - 1).toNat = n := by omega
      simp only [en, ← hx]
      refine Ev.bind hp (Ev.neg (by simp; omega) ?_)
      rw [i64w (by omega), show ((n + 1 : Nat) : Int) - 1 - 1 = (n : Int) - 1 by omega]
      exact hu2
  obtain ⟨u, hu, hE⟩ := hback L.length ⟨[], []⟩ [] (Nat.le_refl _) (by simp) TI.empty
  have hperm : L.Perm L.reverse := (List.reverse_perm L).symm
  refine Ev.bind hE (Ev.bind (Sum_t_ev hT a1 a2 a3) (Ev.bind ((Sum_t_ev hu a1 a2 a3).is (tsum_perm hperm hT.nd a1 a2 a3).symm) (Ev.bind (b := true) ?_ (Ev.now _))))
  refine Ev.pos rfl (Ev.pos (by simp) (Ev.bind (Root_t_ev hT) (Ev.bind ((Root_t_ev hu).is (troot_perm hperm hT.nd).symm) (Ev.pos rfl (Ev.bind (Same_ev hT hu (fun r hr => by simpa using hr) (by simp)) (Ev.pos rfl ?_))))))
  simp only [Len_some hT, Len_some hu, Option.bind_some]
  exact Ev.pos (by simp) (Ev.bind awake_ev (Ev.now _))
end Go.Proofs.YtajhihpaccggdaaDoor.Pure
