/- The plain law of TreeParts. -/
import Derived.Test.YtajhihpaccggdaaDoorLTreeParts
import Derived.Test.YtajhihpaccggdaaDoorPTree4
namespace Go.Proofs.YtajhihpaccggdaaDoor.Pure
open Go Go.Gg Go.Gp Gf
set_option linter.unusedVariables false
set_option linter.unusedSimpArgs false
theorem puts_mem (l : List T36) : ∀ (L : List T36) (r : T36), r ∈ l.foldl rput L → r ∈ L ∨ r ∈ l := by
  induction l with
  | nil => intro L r h; exact .inl h
  | cons x l ih =>
    intro L r h
    rcases ih (rput L x) r h with h | h
    · unfold rput at h
      split at h
      · rcases List.mem_append.1 h with h | h
        · exact .inl h
        · simp at h; subst h; exact .inr (by simp)
      · exact .inl h
    · exact .inr (List.mem_cons_of_mem _ h)
theorem mayKey_some (k : T32) : grapevineref4_MayKey k = some (decide (0 ≤ k.f0 ∧ k.f0 < 8 ∧ 1 ≤ k.f1 ∧ k.f1 ≤ 1023)) := by
  unfold grapevineref4_MayKey
  by_cases h : 0 ≤ k.f0 <;> by_cases h1 : k.f0 < 8 <;> by_cases h2 : 1 ≤ k.f1 <;> by_cases h3 : k.f1 ≤ 1023 <;> simp [h, h1, h2, h3]
theorem puts_stay (l : List T36) : ∀ (L : List T36) (r : T36), r ∈ L → r ∈ l.foldl rput L := by
  induction l with
  | nil => intro L r h; exact h
  | cons x l ih =>
    intro L r h
    refine ih _ r ?_
    unfold rput
    split
    · exact List.mem_append.2 (.inl h)
    · exact h
theorem puts_in (r : T36) (hm : Mayr r) (l : List T36) : ∀ (L : List T36), (∀ x ∈ L, key x ≠ key r) → r ∈ l → (∀ x ∈ l, key x = key r → x = r) → r ∈ l.foldl rput L := by
  induction l with
  | nil => intro L _ h; cases h
  | cons x l ih =>
    intro L hL hr hu
    by_cases e : key x = key r
    · have := hu x (by simp) e
      subst this
      have : rput L x = L ++ [x] := if_pos ⟨hm, fun hk => by
        obtain ⟨y, hy, ey⟩ := List.mem_map.1 hk
        exact hL y hy ey⟩
      rw [List.foldl_cons, this]
      exact puts_stay l _ _ (by simp)
    · have hr' : r ∈ l := by
        rcases List.mem_cons.1 hr with rfl | hr
        · exact absurd rfl e
        · exact hr
      refine ih (rput L x) (fun y hy => ?_) hr' (fun y hy => hu y (List.mem_cons_of_mem _ hy))
      unfold rput at hy
      split at hy
      · rcases List.mem_append.1 hy with hy | hy
        · exact hL y hy
        · simp at hy; subst hy; exact e
      · exact hL y hy
def sgl (l : List T36) (r : T36) : Nat := l.countP fun x => decide (key x = key r)
theorem sgl_uniq {l : List T36} {r : T36} (hr : r ∈ l) (h : sgl l r = 1) : ∀ x ∈ l, key x = key r → x = r := by
  intro x hx e
  unfold sgl at h
  rw [List.countP_eq_length_filter] at h
  obtain ⟨y, hy⟩ := List.length_eq_one_iff.1 h
  have h1 : r ∈ l.filter fun x => decide (key x = key r) := List.mem_filter.2 ⟨hr, decide_eq_true rfl⟩
  have h2 : x ∈ l.filter fun x => decide (key x = key r) := List.mem_filter.2 ⟨hx, decide_eq_true e⟩
  rw [hy] at h1 h2
  rw [List.mem_singleton.1 h1, List.mem_singleton.1 h2]
theorem single_ev (l : List T36) (y : Nat) (hy : y < l.length) (hl : l.length ≤ 1000) : Ev (fun k => grapevinelaw12_single k l (y : Int)) (decide (sgl l (l.getD y z36) = 1)) := by
  have := Ev.count (F := fun k (s : Int) i => grapevinelaw12_single_l0 l (y : Int) k s i) (r := ((sgl l (l.getD y z36) : Nat) : Int)) (fun i => ((sgl (l.take i) (l.getD y z36) : Nat) : Int)) l.length (fun i hi r H => by
    have hb : sgl (l.take i) (l.getD y z36) ≤ i := by
      have : sgl (l.take i) (l.getD y z36) ≤ (l.take i).length := List.countP_le_length
      rw [List.length_take] at this; omega
    refine Ev.step (fun k => ?_) H
    have e1 : sgl (l.take (i + 1)) (l.getD y z36) = sgl (l.take i) (l.getD y z36) + if key (l.getD i z36) = key (l.getD y z36) then 1 else 0 := by
      unfold sgl
      rw [take_getD l z36 hi, List.countP_append]
      simp only [List.countP_cons, List.countP_nil, decide_eq_true_eq, Nat.zero_add]
    have e2 : IntKind.i64.wrap ((i : Int) + 1) = ((i + 1 : Nat) : Int) := by rw [i64w (by omega)]; omega
    rw [grapevinelaw12_single_l0, if_pos (show (i : Int) < (l.length : Int) by omega), if_pos (show 0 ≤ (i : Int) ∧ (i : Int) < (l.length : Int) by omega), if_pos (show 0 ≤ (y : Int) ∧ (y : Int) < (l.length : Int) by omega), e2, i64w (x := ((sgl (l.take i) (l.getD y z36) : Nat) : Int) + 1) (by omega), e1]
    simp only [Int.toNat_natCast]
    by_cases e : key (l.getD i z36) = key (l.getD y z36)
    · rw [if_pos e]; exact if_pos e
    · rw [if_neg e]; exact if_neg e) (by
    refine Ev.step (g := fun _ => some _) (fun k => ?_) (Ev.now _)
    rw [grapevinelaw12_single_l0, if_neg (by omega), List.take_of_length_le (Nat.le_refl _)])
  refine Ev.bind this ((Ev.now _).is ?_)
  rw [Bool.eq_iff_iff, beq_iff_eq, decide_eq_true_eq]; omega
theorem cnt_part {L : List T36} (hm : ∀ r ∈ L, Mayr r) {o : Int} {l : Nat} (hl : l < 5) {i : Int} (h : cnt L o (l : Int) i = 0) (j : Int) (h0 : 0 ≤ j) (h4 : j < 4) : cnt L o ((l + 1 : Nat) : Int) (4 * i + j) = 0 := by
  refine List.countP_eq_zero.2 fun r hr hin => ?_
  refine List.countP_eq_zero.1 h r hr ?_
  unfold inr at hin ⊢
  have hin := of_decide_eq_true hin
  obtain ⟨a1, a2, a3, a4⟩ := hin
  refine decide_eq_true ⟨a1, by omega, by omega, ?_⟩
  have e1 : (5 - ((l + 1 : Nat) : Int)).toNat = 4 - l := by omega
  have e2 : (5 - (l : Int)).toNat = (4 - l) + 1 := by omega
  rw [e1] at a4
  rw [e2, Int.pow_succ, ← Int.ediv_ediv_of_nonneg (by have := pow4 (4 - l); omega), a4]
  omega
theorem sm_zero {L : List T36} {o : Int} {d : Nat} (hd : d ≤ 5) {i : Int} (h : cnt L o (5 - (d : Int)) i = 0) : sm L o d i = 0 := by
  cases d with
  | zero =>
    have := (cnt5 L o i).1 (by simpa using h)
    rw [sm, this]; rfl
  | succ d => rw [sm, if_pos (by rw [← h]; congr 1)]
theorem parts_all {L : List T36} (hm : ∀ r ∈ L, Mayr r) (o : Int) (d : Nat) (hd : d < 5) (i : Int) : sm L o (d + 1) i = allD [sm L o d (4 * i), sm L o d (4 * i + 1), sm L o d (4 * i + 2), sm L o d (4 * i + 3)] := by
  rw [sm]
  by_cases h : cnt L o (5 - ((d : Int) + 1)) i = 0
  · rw [if_pos h]
    have hp := fun j h0 h4 => cnt_part hm (o := o) (l := 4 - d) (by omega) (i := i) (by rw [← h]; congr 1; omega) j h0 h4
    have hz : ∀ j, 0 ≤ j → j < 4 → sm L o d (4 * i + j) = 0 := fun j h0 h4 => sm_zero (by omega) (by rw [← hp j h0 h4]; congr 1; omega)
    rw [show sm L o d (4 * i) = 0 by have := hz 0 (by omega) (by omega); rwa [Int.add_zero] at this, hz 1 (by omega) (by omega), hz 2 (by omega) (by omega), hz 3 (by omega) (by omega)]
    decide +kernel
  · rw [if_neg h]
theorem wide_ev (n : Nat) (h : n ≤ 5) : Ev (fun k => grapevinelaw12_TreeParts_l0 (n : Int) k 1 0) (4 ^ n) := by
  have := Ev.count (F := fun k (s : Int) i => grapevinelaw12_TreeParts_l0 (n : Int) k s i) (r := 4 ^ n) (fun i => 4 ^ i) n (fun i hi r H => by
    refine Ev.step (fun k => ?_) H
    have h1 := pow4_le (n := i + 1) (by omega)
    have h2 := pow4 (i + 1)
    rw [grapevinelaw12_TreeParts_l0, if_pos (by omega), i64w (x := (i : Int) + 1) (by omega), i64w (x := (4 : Int) ^ i * 4) (by rw [← Int.pow_succ]; omega), ← Int.pow_succ]; try rfl) (by
    refine Ev.step (g := fun _ => some _) (fun k => ?_) (Ev.now _)
    rw [grapevinelaw12_TreeParts_l0, if_neg (by omega)])
  simpa using this
theorem TreeParts : TreeParts_Pure := by
  intro l a1 a2 a3 wl w1 w2 w3
  refine Ev.rounds ?_
  unfold grapevinelaw12_TreeParts
  obtain ⟨g, hg, hgl⟩ := Great_ev l 25 (by omega)
  refine Ev.bind hg (Ev.ite (fun _ => Ev.bind awake_ev (Ev.now _)) (fun hne => ?_))
  have hl := hgl (by simpa using hne)
  simp only [tree_New, Option.bind_some]
  have hT := TI.empty.puts l
  have hp := Put_t_ev TI.empty l (by simp; omega)
  obtain ⟨t, ht⟩ : ∃ t, t = l.foldl tput ⟨[], []⟩ := ⟨_, rfl⟩
  obtain ⟨L, hL⟩ : ∃ L, L = l.foldl rput [] := ⟨_, rfl⟩
  have hmem := puts_mem l []
  have hin := fun r hm => puts_in r hm l []
  rw [← ht, ← hL] at hT hp
  rw [← hL] at hmem hin
  obtain ⟨o, ho, ho0, ho8⟩ := low_ev a1 8 (by omega) (by omega)
  obtain ⟨lv, hlv, hl0, hl5⟩ := low_ev a2 5 (by omega) (by omega)
  obtain ⟨n, rfl⟩ : ∃ n : Nat, lv = n := ⟨lv.toNat, by omega⟩
  have hpw := pow4 n
  have hpl := pow4_le (n := n) (by omega)
  obtain ⟨i, hi, hi0, hi4⟩ := low_ev a3 (4 ^ n) (by omega) (by omega)
  refine Ev.bind hp ?_
  simp only [ho, hlv, Option.bind_some]
  refine Ev.bind (wide_ev n (by omega)) ?_
  simp only [hi, Option.bind_some]
  have hth : there o (n : Int) i := ⟨by omega, by omega, by omega, by omega, hi0, by rw [Int.toNat_natCast]; exact hi4⟩
  refine Ev.bind ((Sum_t_ev hT o n i).is (if_pos hth)) ?_
  have ed : (5 - (n : Int)).toNat = (4 - n) + 1 := by omega
  have hds : Ev (fun k => grapevinelaw12_TreeParts_l1 ((((L.length : Int) - (([] : List T36).length : Int)), t) : Int × T97) o (n : Int) i k [] 0) (Sum.inr [sm L o (4 - n) (4 * i), sm L o (4 - n) (4 * i + 1), sm L o (4 - n) (4 * i + 2), sm L o (4 - n) (4 * i + 3)]) := by
    have hstep : ∀ (j : Nat) (ys : List Int) (r : Sum Bool (List Int)), j < 4 → ys.length ≤ 4 → Ev (fun k => grapevinelaw12_TreeParts_l1 ((((L.length : Int) - (([] : List T36).length : Int)), t) : Int × T97) o (n : Int) i k (ys ++ [sm L o (4 - n) (4 * i + j)]) ((j + 1 : Nat) : Int)) r →
        Ev (fun k => grapevinelaw12_TreeParts_l1 ((((L.length : Int) - (([] : List T36).length : Int)), t) : Int × T97) o (n : Int) i k ys (j : Int)) r := fun j ys r hj hy H => by
      have e1 : IntKind.i64.wrap ((n : Int) + 1) = ((n + 1 : Nat) : Int) := by rw [i64w (by omega)]; omega
      have e2 : IntKind.i64.wrap (IntKind.i64.wrap (i * 4) + (j : Int)) = 4 * i + j := by rw [i64w (x := i * 4) (by omega), i64w (by omega)]; omega
      have e3 : IntKind.i64.wrap ((j : Int) + 1) = ((j + 1 : Nat) : Int) := by rw [i64w (by omega)]; omega
      have e4 : (4 : Int) ^ (n + 1) = 4 ^ n * 4 := Int.pow_succ _ _
      have hth2 : there o ((n + 1 : Nat) : Int) (4 * i + j) := ⟨by omega, by omega, by omega, by omega, by omega, by rw [Int.toNat_natCast, e4]; omega⟩
      refine Ev.step (fun k => by rw [grapevinelaw12_TreeParts_l1, if_pos (by omega), e1, e2, e3]) (Ev.bind ((Sum_t_ev hT o ((n + 1 : Nat) : Int) (4 * i + j)).is (if_pos hth2)) ?_)
      refine Ev.neg (by simp) (Ev.pos (by simp; omega) ?_)
      rw [show (5 - ((n + 1 : Nat) : Int)).toNat = 4 - n by omega]
      exact H
    refine hstep 0 [] _ (by omega) (by simp) (hstep 1 _ _ (by omega) (by simp) (hstep 2 _ _ (by omega) (by simp) (hstep 3 _ _ (by omega) (by simp) ?_)))
    refine Ev.step (g := fun _ => some _) (fun k => by rw [grapevinelaw12_TreeParts_l1, if_neg (by omega)]) ((Ev.now _).is ?_)
    simp
  refine Ev.bind hds ?_
  have hall := rall_ev [sm L o (4 - n) (4 * i), sm L o (4 - n) (4 * i + 1), sm L o (4 - n) (4 * i + 2), sm L o (4 - n) (4 * i + 3)] (by simp)
  have hrec : Ev (fun k => grapevinelaw12_TreeParts_l2 l ((((L.length : Int) - (([] : List T36).length : Int)), t) : Int × T97) k 0) (Sum.inr ()) := by
    exact Ev.count (σ := Unit) (F := fun k _ i => grapevinelaw12_TreeParts_l2 l ((((L.length : Int) - (([] : List T36).length : Int)), t) : Int × T97) k i) (r := Sum.inr ()) (fun _ => ()) l.length (fun y hy r H => by
      have hc : 0 ≤ (y : Int) ∧ (y : Int) < (l.length : Int) := by omega
      obtain ⟨x, hx⟩ : ∃ x, x = l.getD y z36 := ⟨_, rfl⟩
      have hxl : x ∈ l := hx ▸ getD_mem l z36 hy
      have e1 : IntKind.i64.wrap ((y : Int) + 1) = ((y + 1 : Nat) : Int) := by rw [i64w (by omega)]; omega
      have hsg := single_ev l y hy (by omega)
      rw [← hx] at hsg
      refine Ev.step (fun k => by rw [grapevinelaw12_TreeParts_l2, if_pos hc.2, if_pos hc, Int.toNat_natCast, ← hx, e1]) ?_
      simp only [mayKey_some, Option.bind_some]
      by_cases hk : 0 ≤ x.f0 ∧ x.f0 < 8 ∧ 1 ≤ x.f1 ∧ x.f1 ≤ 1023
      case neg => exact Ev.bind (b := true) ((Ev.now _).congr fun k => by rw [decide_eq_false hk]; rfl) (Ev.pos rfl H)
      by_cases hs : sgl l x = 1
      case neg =>
        refine Ev.bind (b := true) ?_ (Ev.pos rfl H)
        rw [decide_eq_true hk]
        refine Ev.neg (by simp) (Ev.bind hsg ((Ev.now _).is (by simp [hs])))
      have hu := sgl_uniq hxl hs
      refine Ev.bind (b := false) ?_ (Ev.neg (by simp) (Ev.pos hc ?_))
      · rw [decide_eq_true hk]
        refine Ev.neg (by simp) (Ev.bind hsg ((Ev.now _).is (by simp [hs])))
      have h1024 : x.f1 < 4 ^ (5 : Int).toNat := by
        have e : (4 : Int) ^ (5 : Int).toNat = 1024 := by decide
        rw [e]; omega
      have hth2 : there x.f0 5 x.f1 := ⟨hk.1, hk.2.1, by omega, by omega, by omega, h1024⟩
      have hsum := (Sum_t_ev hT x.f0 5 x.f1).is (if_pos hth2)
      have hkey : (⟨x.f0, x.f1⟩ : T32) = key x := rfl
      obtain ⟨v, hv, hvr⟩ := Get_some t hT (key x)
      by_cases hm : Mayr x
      · have hxL : x ∈ L := hin x hm (by simp) hxl hu
        have hfind : (L.find? fun r => decide (key r = key x)) = some x := by
          cases hf : (L.find? fun r => decide (key r = key x)) with
          | none => exact absurd (List.mem_map.2 ⟨x, hxL, rfl⟩) (find_none.1 hf)
          | some z =>
            have hz := List.mem_of_find?_eq_some hf
            have hkz := List.find?_some hf
            have hkz : key z = key x := of_decide_eq_true hkz
            rcases hmem z hz with h | h
            · cases h
            · rw [hu z h hkz]
        have hg : mget t.f0 (key x) = some (leafOf x) := by rw [hT.get, hfind]; rfl
        refine Ev.bind ((rLay_ev x).is (if_pos hm)) (Ev.pos rfl (Ev.bind (One_ev _ (len_lay_short hm)) (Ev.pos hc (Ev.pos hc (Ev.bind hsum (Ev.pos hc ?_))))))
        rw [hkey, hv, hg]
        have hv2 := hvr x hfind
        have es : sm L x.f0 0 x.f1 = dg x := by rw [sm, show (⟨x.f0, x.f1⟩ : T32) = key x from rfl, hfind, Option.map_some, Option.getD_some]
        have es2 : sm L x.f0 (5 - 5 : Int).toNat x.f1 = dg x := es
        rw [es2, hv2]
        refine Ev.bind (b := (x, true)) (Ev.now _) (Ev.bind (b := false) ((Ev.now _).congr fun k => ?_) (Ev.neg Bool.false_ne_true H))
        simp [dg, hc]
      · have hno : key x ∉ L.map key := fun h => by
          obtain ⟨z, hz, ez⟩ := List.mem_map.1 h
          rcases hmem z hz with h | h
          · cases h
          · have := hu z h ez
            subst this
            exact hm (hT.may _ hz)
        have hg : mget t.f0 (key x) = none := (hT.get_none _).2 hno
        refine Ev.bind ((rLay_ev x).is (if_neg hm)) (Ev.neg (by simp) (Ev.pos hc (Ev.pos hc (Ev.bind hsum (Ev.pos hc ?_)))))
        rw [hkey, hv, hg]
        have es : sm L x.f0 0 x.f1 = 0 := by rw [sm, show (⟨x.f0, x.f1⟩ : T32) = key x from rfl, find_none.2 hno]; rfl
        have es2 : sm L x.f0 (5 - 5 : Int).toNat x.f1 = 0 := es
        rw [es2]
        refine Ev.bind (b := (v, false)) (Ev.now _) (Ev.bind (b := false) ((Ev.now _).congr fun k => ?_) (Ev.neg Bool.false_ne_true H))
        simp) (Ev.step (g := fun _ => some (Sum.inr ())) (fun k => by rw [grapevinelaw12_TreeParts_l2, if_neg (by simp)]) (Ev.now _))
  refine Ev.bind hrec (Ev.bind (b := true) (Ev.pos rfl (Ev.bind hall (Ev.pos ?_ (Ev.bind awake_ev (Ev.now _))))) (Ev.now _))
  simp only
  rw [ed]
  exact parts_all hT.may o (4 - n) (by omega) i
end Go.Proofs.YtajhihpaccggdaaDoor.Pure
