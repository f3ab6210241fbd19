/- The plain law of StateJoins. -/
import Derived.Test.YtjefgmglgphdbaaDoorLStateJoins
import Derived.Test.YtjefgmglgphdbaaDoorPSt6
namespace Go.Proofs.YtjefgmglgphdbaaDoor.Pure
open Go Go.Gg Go.Gp Gf
set_option linter.unusedVariables false
set_option linter.unusedSimpArgs false
theorem plays {n : Nat} (h1 : 1 ≤ n) (hn : n ≤ 8) (l : List T36) (hl : l.length ≤ 1000) {F : Nat → Int → T63 → Option T63}
    (hF : ∀ k i y, F (k + 1) i y = if i < (l.length : Int) then (if 0 ≤ i ∧ i < (l.length : Int) then ((grapevinelaw19_play k y (l.getD i.toNat z36)).bind fun t => F k (IntKind.i64.wrap (i + 1)) t) else none) else some y) :
    ∃ s, Ev (fun k => F k 0 (newS n)) s ∧ Told n s := by
  obtain ⟨s, hs, hE⟩ := Ev.loop (F := fun k (s : Int × T63) => F k s.1 s.2) (fun s m => 0 ≤ s.1 ∧ s.1 + m = l.length ∧ Told n s.2) (fun r => Told n r) (fun s m ⟨h0, hm, hs⟩ => by
    obtain ⟨i, s⟩ := s
    simp only at h0 hm hs ⊢
    by_cases hi : i < (l.length : Int)
    case neg => exact .inl ⟨s, hs, Ev.step (fun k => hF k i s) (Ev.neg hi (Ev.now _))⟩
    obtain ⟨s', hA, hs', hc'⟩ := play_told hs h1 hn (l.getD i.toNat z36)
    refine .inr ⟨(i + 1, s'), m - 1, by omega, ⟨by simp only; omega, by simp only; omega, hs'⟩, fun r H => ?_⟩
    refine Ev.step (fun k => hF k i s) (Ev.pos hi (Ev.pos (by omega) ?_))
    refine Ev.bind hA ?_
    rw [i64w (by omega)]; exact H) (0, newS n) l.length ⟨by simp, by simp, Told.new n⟩
  exact ⟨s, hE, hs⟩
theorem all_keys {n : Nat} {c : T63} (hc : Told n c) (hn : n ≤ 8) {u : List Int} (hu : Vec n u) (hlen : (kAll n u c.f0).length ≤ 10000) :
    ∃ c', Ev (fun k => grapevinelaw19_StateJoins_l2 ((kAll n u c.f0).map fun k => rk k.f0 k.f1) k 0 c) (Sum.inr c') ∧ Told n c' ∧ c'.f1 = c.f1 ∧ c'.f0 = zip mx c.f0 u := by
  obtain ⟨K, hK⟩ : ∃ K, K = kAll n u c.f0 := ⟨_, rfl⟩
  rw [← hK] at hlen ⊢
  obtain ⟨r, ⟨c', rfl, h⟩, hE⟩ := Ev.loop (F := fun k (s : Int × T63) => grapevinelaw19_StateJoins_l2 (K.map fun k => rk k.f0 k.f1) k s.1 s.2) (fun s d => 0 ≤ s.1 ∧ s.1 ≤ K.length ∧ d = (kAll n u s.2.f0).length ∧ Told n s.2 ∧ s.2.f1 = c.f1 ∧ zip mx s.2.f0 u = zip mx c.f0 u ∧ kAll n u s.2.f0 = K.drop s.1.toNat)
    (fun r => ∃ c', r = Sum.inr c' ∧ Told n c' ∧ c'.f1 = c.f1 ∧ c'.f0 = zip mx c.f0 u) (fun s d ⟨h0, hle, hd, ht, he, hz, hk⟩ => by
      obtain ⟨i, y⟩ := s
      simp only at h0 hle hd ht he hz hk ⊢
      by_cases hi : i < (K.length : Int)
      case neg =>
        have hnil : kAll n u y.f0 = [] := by rw [hk, List.drop_eq_nil_of_le (by omega)]
        refine .inl ⟨_, ⟨y, rfl, ht, he, ?_⟩, ?_⟩
        · rw [← hz, zip_le ht.1.v.1 hu.1 (kAll_nil hnil)]
        · refine Ev.step (fun k => by rw [grapevinelaw19_StateJoins_l2]) ?_
          rw [List.length_map]
          exact Ev.neg hi (Ev.now _)
      have hii : i.toNat < K.length := by omega
      obtain ⟨x, hx⟩ : ∃ x, x = K[i.toNat] := ⟨_, rfl⟩
      have hcons : kAll n u y.f0 = x :: K.drop (i.toNat + 1) := by rw [hk, List.drop_eq_getElem_cons hii, hx]
      obtain ⟨y', hA, ht', he', hk', hz'⟩ := accept_one ht hn hu hcons
      refine .inr ⟨(i + 1, y'), (kAll n u y'.f0).length, ?_, ⟨by simp only; omega, by simp only; omega, rfl, ht', he'.trans he, hz'.trans hz, ?_⟩, fun r H => ?_⟩
      · rw [hk', hd, hk, List.length_drop, List.length_drop]; omega
      · rw [hk']; congr 1; simp only; omega
      · refine Ev.step (fun k => by rw [grapevinelaw19_StateJoins_l2]) ?_
        rw [List.length_map]
        refine Ev.pos hi (Ev.pos (by omega) ?_)
        have eg : (K.map fun k => rk k.f0 k.f1).getD i.toNat z34 = rk x.f0 x.f1 := by rw [getD_eq _ _ (by rw [List.length_map]; exact hii), List.getElem_map, ← hx]
        rw [eg, hA]
        refine Ev.name fun t htt => ?_
        subst htt
        refine Ev.neg (by simp) ?_
        rw [i64w (by omega)]; exact H) (0, c) (kAll n u c.f0).length ⟨by simp, by simp, rfl, hc, rfl, rfl, by simp [hK]⟩
  exact ⟨c', hE, h⟩
theorem Join3_ev {n : Nat} {s t : T63} (hs : Told n s) (ht : Told n t) (h1 : 1 ≤ n) (hn : n ≤ 8) : Ev (fun k => state_Join_40 k s t) (some (joinS (joinS s t) s)) := by
  unfold state_Join_40
  rw [Copy_eq hs.1 hn]
  have e1 := hs.1.v.1
  have e2 := ht.1.v.1
  have hj := hs.join ht
  have e3 := hj.1.v.1
  refine Ev.bind (b := Sum.inr (joinS (joinS s t) s)) ?_ (Ev.now _)
  refine Ev.name fun c hc => ?_
  rw [hc]
  refine Ev.neg (by omega) ?_
  refine Ev.bind (join2 hs.1.v ht.1.v hn) ?_
  refine Ev.bind (copy_loop ht.1 ⟨zip mx s.f0 t.f0, s.f1, s.f2⟩ (F := fun k seen y => state_Join_40_l0 t k seen y) (fun k seen y => by rw [state_Join_40_l0])) ?_
  obtain ⟨c1, hR⟩ := Raise_gen (s := ⟨zip mx s.f0 t.f0, s.f1, forr s.f2 t.f2⟩) (Vec.join hs.1.v ht.1.v) hs.1.w h1 hn (join_supp hs.1 ht.1) ht.1.w
  refine Ev.bind hR ?_
  show Ev (fun k => if ¬ (s.f0.length : Int) = ((joinS s t).f0.length : Int) then some (Sum.inl none) else ((vector_Join k ([(joinS s t).f0, s.f0] : List (List Int))).bind fun t41 => ((state_Join_40_l1 s k [] (⟨t41, (joinS s t).f1, (joinS s t).f2⟩ : T63)).bind fun s49 => ((state_State_Raise k s49 s.f1).bind fun t61 => some (Sum.inr t61.2))))) _
  refine Ev.neg (by omega) ?_
  refine Ev.bind (join2 hj.1.v hs.1.v hn) ?_
  refine Ev.bind (copy_loop hs.1 ⟨zip mx (joinS s t).f0 s.f0, (joinS s t).f1, (joinS s t).f2⟩ (F := fun k seen y => state_Join_40_l1 s k seen y) (fun k seen y => by rw [state_Join_40_l1])) ?_
  obtain ⟨c2, hR2⟩ := Raise_gen (s := ⟨zip mx (joinS s t).f0 s.f0, (joinS s t).f1, forr (joinS s t).f2 s.f2⟩) (Vec.join hj.1.v hs.1.v) hj.1.w h1 hn (join_supp hj.1 hs.1) hs.1.w
  exact Ev.bind hR2 (Ev.now _)
theorem StateJoins : StateJoins_Pure := by
  intro a l l' ha hl hl'
  apply Ev.rounds
  unfold grapevinelaw19_StateJoins
  have aw : Ev (fun k => (grapevinelaw19_awake k).bind fun t => some t) true := Ev.bind awake_ev (Ev.now _)
  by_cases ha : 1 ≤ a ∧ a ≤ 8
  case neg =>
    rw [New_none ha]
    refine Ev.name fun t ht => ?_
    subst ht
    simp only [Option.elim_none]
    refine Ev.name fun t ht => ?_
    subst ht
    simp only [Option.elim_none]
    exact aw
  obtain ⟨n, rfl⟩ : ∃ n : Nat, a = n := ⟨a.toNat, by omega⟩
  have h1 : 1 ≤ n := by omega
  have hn : n ≤ 8 := by omega
  rw [New_some h1 hn]
  refine Ev.name fun t ht => ?_
  subst ht
  simp only [Option.elim_some]
  refine Ev.name fun t ht => ?_
  subst ht
  simp only [Option.elim_some]
  obtain ⟨g, hg, hgs⟩ := great_ev l (m := 30) (by omega)
  obtain ⟨g', hg', hgs'⟩ := great_ev l' (m := 30) (by omega)
  cases g with
  | true => exact Ev.bind (b := true) (Ev.bind hg (Ev.pos rfl (Ev.now _))) (Ev.pos rfl aw)
  | false =>
  cases g' with
  | true => exact Ev.bind (b := true) (Ev.bind hg (Ev.neg Bool.false_ne_true (Ev.bind hg' (Ev.now _)))) (Ev.pos rfl aw)
  | false =>
  refine Ev.bind (b := false) (Ev.bind hg (Ev.neg Bool.false_ne_true (Ev.bind hg' (Ev.now _)))) ?_
  refine Ev.neg Bool.false_ne_true ?_
  obtain ⟨hlen, _⟩ := hgs rfl
  obtain ⟨hlen', _⟩ := hgs' rfl
  obtain ⟨s, hsE, hs⟩ := plays h1 hn l (by omega) (F := fun k i y => grapevinelaw19_StateJoins_l0 l k i y) (fun k i y => by rw [grapevinelaw19_StateJoins_l0])
  obtain ⟨b, hbE, hb⟩ := plays h1 hn l' (by omega) (F := fun k i y => grapevinelaw19_StateJoins_l1 l' k i y) (fun k i y => by rw [grapevinelaw19_StateJoins_l1])
  refine Ev.bind hsE ?_
  refine Ev.bind hbE ?_
  refine Ev.bind (Join_ev hs.1 hb.1 h1 hn) ?_
  simp only [Option.elim_some]
  obtain ⟨w, hw, hwT, w0, w1⟩ := Retold hs hb
  rw [← hw]
  have hsv := hs.1.v.1
  have hbv := hb.1.v.1
  have hsw := hs.1.w.1
  have hbw := hb.1.w.1
  have hVJ := hwT.1.v
  have hWJ := hwT.1.w
  obtain ⟨x, hx, hxT, x0, x1⟩ := Retold hb hs
  obtain ⟨y, hy, hyT, y0, y1⟩ := Retold hxT hb
  have mm : ∀ p q : Int, mx (mx q p) q = mx p q := fun p q => by unfold mx; split <;> split <;> (try split) <;> omega
  have hyw : y = w := told_eq hyT hwT
    (by
      rw [y0, x0, w0]
      refine vec_ext (len_zip (len_zip hbv hsv) hbv) (len_zip hsv hbv) fun i hi => ?_
      rw [getD_zip (len_zip hbv hsv) hbv hi, getD_zip hbv hsv hi, getD_zip hsv hbv hi, mm])
    (by
      rw [y1, x1, w1]
      refine vec_ext (len_zip (len_zip hbw hsw) hbw) (len_zip hsw hbw) fun i hi => ?_
      rw [getD_zip (len_zip hbw hsw) hbw hi, getD_zip hbw hsw hi, getD_zip hsw hbw hi, mm])
  have J41 : state_Join_41 s = some s := by unfold state_Join_41; rw [Copy_eq hs.1 hn]; rfl
  have J42 : state_Join_42 s = some () := by unfold state_Join_42; rw [Copy_eq hs.1 hn]; rfl
  refine Ev.bind (b := false) ?_ ?_
  · refine Ev.bind (whole_ev hwT.1 hn) (Ev.neg (by simp) ?_)
    refine Ev.bind (Join3_ev hb hs h1 hn) ?_
    rw [← hx, ← hy, hyw]
    simp only [Option.elim_some]
    refine Ev.bind (Same_self hwT.1 hn) (Ev.neg (by simp) ?_)
    rw [J41, J42]
    refine Ev.name fun t ht => ?_
    rw [ht]
    refine Ev.bind (Same_self hs.1 hn) (Ev.neg (by simp) ?_)
    exact Ev.now _
  refine Ev.neg Bool.false_ne_true ?_
  rw [Copy_eq hs.1 hn, W_eq hb.1 hn]
  refine Ev.name fun c hc => ?_
  rw [hc]
  refine Ev.name fun v hv => ?_
  rw [hv]
  obtain ⟨c, hc⟩ : ∃ c, c = raiseS s b.f1 := ⟨_, rfl⟩
  refine Ev.bind ((Raise_ev hs.1 h1 hn hb.1.w).is (by rw [← hc])) ?_
  have hcT : Told n c := by rw [hc]; exact hs.raise hb.1.w
  have c1 : c.f1 = w.f1 := by rw [hc, w1]; rfl
  have c0 : c.f0 = zip mx s.f0 w.f1 := by rw [hc, w1]; rfl
  have hbl : Le n b.f1 c.f0 := fun i hi => by
    have h1 := hcT.1.le i hi
    rw [c1, w1, getD_zip hsw hbw hi] at h1
    have := (mx_le (s.f1.getD i 0) (b.f1.getD i 0)).2
    omega
  rw [V_eq hcT.1 hn, W_eq hcT.1 hn]
  refine Ev.name fun v hv => ?_
  rw [hv]
  refine Ev.name fun v hv => ?_
  rw [hv]
  refine Ev.bind ((Lacks_ev hb.1 h1 hn hcT.1.v hcT.1.w hcT.1.le hbl).is (recs_told hb hbl)) ?_
  have hlen := kAll_len hb.1.v hcT.1.v n
  obtain ⟨z, hzE, hzT, z1, z0⟩ := all_keys hcT hn hb.1.v (by omega)
  refine Ev.bind hzE ?_
  have hzw : z = w := told_eq hzT hwT
    (by
      rw [z0, c0]
      refine vec_ext (len_zip (len_zip hsv hWJ.1) hbv) hVJ.1 fun j hj => ?_
      have q1 : mx (s.f0.getD j 0) (b.f0.getD j 0) = w.f0.getD j 0 := by rw [← getD_zip (f := mx) hsv hbv hj, ← w0]
      have q2 := hwT.1.le j hj
      rw [getD_zip (len_zip hsv hWJ.1) hbv hj, getD_zip hsv hWJ.1 hj]
      rw [← q1] at q2 ⊢
      unfold mx at q2 ⊢
      split at q2 <;> split <;> (try split) <;> omega)
    (z1.trans c1)
  refine Ev.bind (b := true) ?_ (Ev.now _)
  rw [hzw]
  exact Ev.bind (Same_self hwT.1 hn) (Ev.pos rfl aw)
end Go.Proofs.YtjefgmglgphdbaaDoor.Pure
