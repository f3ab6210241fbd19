/- The plain law of TreeScript. -/
import Derived.Test.YtajhihpaccggdaaDoorLTreeScript
import Derived.Test.YtajhihpaccggdaaDoorPTree4
namespace Go.Proofs.YtajhihpaccggdaaDoor.Pure
open Go Go.Gg Go.Gp Gf
set_option linter.unusedVariables false
set_option linter.unusedSimpArgs false
def kA (x : T38) : T32 := ⟨x.f1, x.f2⟩
def actL (L : List T36) (x : T38) : List T36 := if x.f0 = true then [kA x, kA x].foldl rdrop L else [recA x, recA x].foldl rput L
def actT (t : T97) (x : T38) : T97 := if x.f0 = true then [kA x, kA x].foldl tdrop t else [recA x, recA x].foldl tput t
theorem act_TI {t : T97} {L : List T36} (h : TI t L) (x : T38) : TI (actT t x) (actL L x) := by
  unfold actT actL
  by_cases e : x.f0 = true
  · rw [if_pos e, if_pos e]; exact h.drops _
  · rw [if_neg e, if_neg e]; exact h.puts _
theorem act_len (L : List T36) (x : T38) : (actL L x).length ≤ L.length + 2 := by
  unfold actL
  by_cases e : x.f0 = true
  · rw [if_pos e]; have := drops_len [kA x, kA x] L; omega
  · rw [if_neg e]; have := put_many [recA x, recA x] L; simpa using this.1
theorem acts_TI (l : List T38) {t : T97} {L : List T36} (h : TI t L) : TI (l.foldl actT t) (l.foldl actL L) := by
  induction l generalizing t L with
  | nil => exact h
  | cons x l ih => exact ih (act_TI h x)
theorem acts_len (l : List T38) (L : List T36) : (l.foldl actL L).length ≤ L.length + 2 * l.length := by
  induction l generalizing L with
  | nil => simp
  | cons x l ih => have := ih (actL L x); have := act_len L x; simp only [List.foldl_cons, List.length_cons]; omega
theorem tell_ev {t : T97} {L : List T36} (h : TI t L) (hl : L.length ≤ 1000) (a1 a2 a3 : Int) {α : Type} {X : Nat → Option α} {r : α} {Y : Option α} (hX : Ev X r) :
    Ev (fun k => (tree_Tree_Sum k t a1 a2 a3).bind fun t45 => (grapevineref12_Tree_Sum k ⟨L⟩ a1 a2 a3).bind fun t49 => ((if ¬ t45.1 = t49.1 then some true else if (!(t45.2 == t49.2)) = true then some true else (tree_Tree_Len t).bind fun t57 => some (t57 != (L.length : Int))).bind fun s53 => if s53 = true then Y else X k)) r := by
  refine Ev.bind (Sum_t_ev h a1 a2 a3) (Ev.bind (Sum_r_ev h.may (by omega) a1 a2 a3) (Ev.bind (b := false) ((Ev.now _).congr fun k => ?_) (Ev.neg (by simp) hX)))
  rw [if_neg (by simp), if_neg (by simp), Len_some h]; simp
theorem levels_ev {t : T97} {L : List T36} (h : TI t L) (hl : L.length ≤ 1000) (y : Nat) (hy : y < L.length) : ∀ (n : Nat) (s : Int), n ≤ 6 → 0 ≤ s ∧ s < 4294967296 → Ev (fun k => grapevinelaw12_TreeScript_l2 (⟨L⟩, t) (y : Int) k s ((n : Int) - 1)) (Sum.inr ()) := by
  intro n
  induction n with
  | zero => intro s _ _; exact Ev.step (g := fun _ => some (Sum.inr ())) (fun k => by rw [grapevinelaw12_TreeScript_l2, if_neg (by omega)]) (Ev.now _)
  | succ n ih =>
    intro s hn hs
    have h0 : 0 ≤ Int.tdiv s 4 ∧ Int.tdiv s 4 < 4294967296 := by rw [Int.tdiv_eq_ediv_of_nonneg hs.1]; omega
    have hb : 0 ≤ (y : Int) ∧ (y : Int) < (L.length : Int) := by omega
    refine Ev.step (fun k => by rw [grapevinelaw12_TreeScript_l2]) (Ev.pos (by omega) (Ev.pos hb (Ev.bind (Sum_t_ev h _ _ _) (Ev.pos hb (Ev.bind (Sum_r_ev h.may (by omega) _ _ _) ?_)))))
    refine Ev.neg (fun h => h rfl) ?_
    rw [i64w (x := Int.tdiv s 4) (by omega), i64w (x := ((n + 1 : Nat) : Int) - 1 - 1) (by omega), show ((n + 1 : Nat) : Int) - 1 - 1 = (n : Int) - 1 by omega]
    exact ih _ (by omega) h0
theorem each_ev {t : T97} {L : List T36} (h : TI t L) (hl : L.length ≤ 1000) : Ev (fun k => grapevinelaw12_TreeScript_l1 (⟨L⟩, t) k 0) (Sum.inr ()) := by
  exact Ev.count (σ := Unit) (F := fun k _ i => grapevinelaw12_TreeScript_l1 (⟨L⟩, t) k i) (r := Sum.inr ()) (fun _ => ()) L.length (fun i hi r H => by
    have hr := (h.may _ (getD_mem L z36 hi)).1
    have := levels_ev h hl i hi 6 (L.getD i z36).f1 (by omega) (by omega)
    rw [show ((6 : Nat) : Int) - 1 = 5 from rfl] at this
    have hb : 0 ≤ (i : Int) ∧ (i : Int) < (L.length : Int) := by omega
    refine Ev.step (g := fun k => (grapevinelaw12_TreeScript_l2 (⟨L⟩, t) (i : Int) k (L.getD i z36).f1 5).bind fun os105 => match os105 with | Sum.inl r => some (Sum.inl r) | Sum.inr s105 => grapevinelaw12_TreeScript_l1 (⟨L⟩, t) k ((i + 1 : Nat) : Int)) (fun k => ?_) (Ev.bind this H)
    have e1 : IntKind.i64.wrap ((i : Int) + 1) = ((i + 1 : Nat) : Int) := by rw [i64w (by omega)]; omega
    simp only [grapevinelaw12_TreeScript_l1, hb.2, hb, e1, Int.toNat_natCast, if_true, and_self]
    rfl) (Ev.step (g := fun _ => some (Sum.inr ())) (fun k => by rw [grapevinelaw12_TreeScript_l1, if_neg (by simp)]) (Ev.now _))
theorem TreeScript : TreeScript_Pure := by
  intro l a1 a2 a3 wl w1 w2 w3
  refine Ev.rounds ?_
  unfold grapevinelaw12_TreeScript
  obtain ⟨g, hg, hgl⟩ := great_ev l 25 (by omega)
  refine Ev.bind hg (Ev.ite (fun _ => Ev.bind awake_ev (Ev.now _)) (fun hne => ?_))
  have hl := hgl (by simpa using hne)
  simp only [tree_New, Option.bind_some]
  have hacts : ∀ i, TI ((l.take i).foldl actT ⟨[], []⟩) ((l.take i).foldl actL []) := fun i => acts_TI _ TI.empty
  have hlen : ∀ i, i ≤ l.length → ((l.take i).foldl actL []).length ≤ 100 := fun i hi => by
    have := acts_len (l.take i) []
    rw [List.length_take] at this
    simp at this; omega
  have hloop := Ev.count (F := fun k (s : T30 × T97) i => grapevinelaw12_TreeScript_l0 l a1 a2 a3 k i s.1 s.2) (r := Sum.inr ((⟨l.foldl actL []⟩ : T30), l.foldl actT ⟨[], []⟩)) (fun i => ((⟨(l.take i).foldl actL []⟩ : T30), (l.take i).foldl actT ⟨[], []⟩)) l.length (fun i hi r H => by
    obtain ⟨x, hx⟩ : ∃ x, x = l.getD i z38 := ⟨_, rfl⟩
    have hT := hacts i
    have hT' := hacts (i + 1)
    have hn := hlen i (by omega)
    have hn' := hlen (i + 1) (by omega)
    rw [foldl_take actL [] l z38 hi, foldl_take actT ⟨[], []⟩ l z38 hi, ← hx] at H hT'
    rw [foldl_take actL [] l z38 hi, ← hx] at hn'
    obtain ⟨t, ht⟩ : ∃ t, t = (l.take i).foldl actT ⟨[], []⟩ := ⟨_, rfl⟩
    obtain ⟨L, hL⟩ : ∃ L, L = (l.take i).foldl actL [] := ⟨_, rfl⟩
    simp only [← ht, ← hL] at H hT hT' hn hn' ⊢
    refine Ev.step (fun k => by rw [grapevinelaw12_TreeScript_l0, if_pos (show (i : Int) < (l.length : Int) by omega), if_pos (show 0 ≤ (i : Int) ∧ (i : Int) < (l.length : Int) by omega), Int.toNat_natCast, ← hx]) ?_
    have tell := tell_ev hT' (by omega) a1 a2 a3 (Y := some (Sum.inl false)) H
    rw [i64w (x := (i : Int) + 1) (by omega)]
    by_cases e : x.f0 = true
    · have eL : actL L x = [kA x, kA x].foldl rdrop L := if_pos e
      have eT : actT t x = [kA x, kA x].foldl tdrop t := if_pos e
      rw [eL, eT] at tell
      refine Ev.pos e (Ev.bind (b := (false, (⟨[kA x, kA x].foldl rdrop L⟩ : T30), [kA x, kA x].foldl tdrop t)) (Ev.bind (Drop_t_ev hT [kA x, kA x] (by omega) (by simp)) (Ev.bind (Drop_r_ev hT.nd [kA x, kA x] (by omega) (by simp)) ((Ev.now _).is (by simp)))) (Ev.neg (by simp) ?_))
      exact tell
    · have eL : actL L x = [recA x, recA x].foldl rput L := if_neg e
      have eT : actT t x = [recA x, recA x].foldl tput t := if_neg e
      rw [eL, eT] at tell
      refine Ev.neg e (Ev.bind (b := (false, (⟨[recA x, recA x].foldl rput L⟩ : T30), [recA x, recA x].foldl tput t)) (Ev.bind (Put_t_ev hT [recA x, recA x] (by simp; omega)) (Ev.bind (Put_r_ev L [recA x, recA x] (by simp; omega)) ((Ev.now _).is (by simp)))) (Ev.neg (by simp) ?_))
      exact tell) (by
    refine Ev.step (g := fun _ => some _) (fun k => ?_) (Ev.now _)
    rw [grapevinelaw12_TreeScript_l0, if_neg (by omega), List.take_of_length_le (Nat.le_refl _)])
  have hT := hacts l.length
  have hn := hlen l.length (Nat.le_refl _)
  rw [List.take_of_length_le (Nat.le_refl _)] at hT hn
  refine Ev.bind hloop (Ev.bind (each_ev hT (by omega)) (Ev.bind (b := true) (Ev.bind (Root_t_ev hT) (Ev.bind (Root_r_ev hT.may (by omega)) (Ev.pos rfl (Ev.bind awake_ev (Ev.now _))))) (Ev.now _)))
end Go.Proofs.YtajhihpaccggdaaDoor.Pure
