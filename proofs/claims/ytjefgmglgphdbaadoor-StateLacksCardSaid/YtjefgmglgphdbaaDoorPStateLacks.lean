/- The plain law of StateLacks. -/
import Derived.Test.YtjefgmglgphdbaaDoorLStateLacks
import Derived.Test.YtjefgmglgphdbaaDoorPSt6
namespace Go.Proofs.YtjefgmglgphdbaaDoor.Pure
open Go Go.Gg Go.Gp Gf
set_option linter.unusedVariables false
set_option linter.unusedSimpArgs false
theorem some_keys {n : Nat} {c : T63} (hc : Told n c) (hn : n ≤ 8) {u : List Int} (hu : Vec n u) {m : Int} (hm : 1 ≤ m ∧ m ≤ 5) (hlen : (kAll n u c.f0).length ≤ 10000) :
    ∃ c', Ev (fun k => grapevinelaw19_StateLacks_l5 m ((kAll n u c.f0).map fun k => rk k.f0 k.f1) k 0 c) (Sum.inr c') ∧ Told n c' ∧ c'.f1 = c.f1 ∧ zip mx c'.f0 u = zip mx c.f0 u ∧ (kAll n u c'.f0).length ≤ (kAll n u c.f0).length - 1 := by
  obtain ⟨K, hK⟩ : ∃ K, K = kAll n u c.f0 := ⟨_, rfl⟩
  rw [← hK] at hlen ⊢
  obtain ⟨r, ⟨c', rfl, h⟩, hE⟩ := Ev.loop (F := fun k (s : Int × T63) => grapevinelaw19_StateLacks_l5 m (K.map fun k => rk k.f0 k.f1) k s.1 s.2) (fun s d => 0 ≤ s.1 ∧ s.1 ≤ m ∧ d = (kAll n u s.2.f0).length ∧ Told n s.2 ∧ s.2.f1 = c.f1 ∧ zip mx s.2.f0 u = zip mx c.f0 u ∧ kAll n u s.2.f0 = K.drop s.1.toNat)
    (fun r => ∃ c', r = Sum.inr c' ∧ Told n c' ∧ c'.f1 = c.f1 ∧ zip mx c'.f0 u = zip mx c.f0 u ∧ (kAll n u c'.f0).length ≤ K.length - 1) (fun s d ⟨h0, hle, hd, ht, he, hz, hk⟩ => by
      obtain ⟨i, y⟩ := s
      simp only at h0 hle hd ht he hz hk ⊢
      have hkl : (kAll n u y.f0).length = K.length - i.toNat := by rw [hk, List.length_drop]
      by_cases hi : i < (K.length : Int) ∧ i < m
      case neg =>
        refine .inl ⟨_, ⟨y, rfl, ht, he, hz, by omega⟩, ?_⟩
        refine Ev.step (fun k => by rw [grapevinelaw19_StateLacks_l5]) ?_
        rw [List.length_map]
        refine Ev.bind (b := false) ?_ (Ev.neg Bool.false_ne_true (Ev.now _))
        by_cases h : i < (K.length : Int)
        · exact Ev.pos h ((Ev.now _).is (decide_eq_false fun e => hi ⟨h, e⟩))
        · exact Ev.neg h (Ev.now _)
      obtain ⟨hi, him⟩ := hi
      have hii : i.toNat < K.length := by omega
      obtain ⟨x, hx⟩ : ∃ x, x = K[i.toNat] := ⟨_, rfl⟩
      have hcons : kAll n u y.f0 = x :: K.drop (i.toNat + 1) := by rw [hk, List.drop_eq_getElem_cons hii, hx]
      obtain ⟨y', hA, ht', he', hk', hz'⟩ := accept_one ht hn hu hcons
      refine .inr ⟨(i + 1, y'), (kAll n u y'.f0).length, ?_, ⟨by simp only; omega, by simp only; omega, rfl, ht', he'.trans he, hz'.trans hz, ?_⟩, fun r H => ?_⟩
      · rw [hk', List.length_drop]; omega
      · rw [hk']; congr 1; simp only; omega
      · refine Ev.step (fun k => by rw [grapevinelaw19_StateLacks_l5]) ?_
        rw [List.length_map]
        refine Ev.bind (b := true) (Ev.pos hi ((Ev.now _).is (decide_eq_true him))) (Ev.pos rfl ?_)
        refine Ev.pos (by omega) ?_
        have eg : (K.map fun k => rk k.f0 k.f1).getD i.toNat z34 = rk x.f0 x.f1 := by rw [getD_eq _ _ (by rw [List.length_map]; exact hii), List.getElem_map, ← hx]
        rw [eg, hA]
        refine Ev.name fun t htt => ?_
        subst htt
        refine Ev.neg (by simp) ?_
        rw [i64w (by omega)]; exact H) (0, c) (kAll n u c.f0).length ⟨by simp, by simp only; omega, rfl, hc, rfl, rfl, by simp [hK]⟩
  exact ⟨c', hE, h⟩
theorem plays {n : Nat} (h1 : 1 ≤ n) (hn : n ≤ 8) (l : List T36) (hl : l.length ≤ 1000) {F : Nat → Int → T63 → Option T63}
    (hF : ∀ k i y, F (k + 1) i y = if i < (l.length : Int) then (if 0 ≤ i ∧ i < (l.length : Int) then ((grapevinelaw19_play k y (l.getD i.toNat z36)).bind fun t => F k (IntKind.i64.wrap (i + 1)) t) else none) else some y) :
    ∃ s, Ev (fun k => F k 0 (newS n)) s ∧ Told n s ∧ cnt n s ≤ l.length := by
  have c0 : cnt n (newS n) = 0 := by
    have := (Good.new n)
    unfold cnt
    rw [List.length_eq_zero_iff, List.eq_nil_iff_forall_not_mem]
    intro k hk
    obtain ⟨_, h2, h3⟩ := kAll_mem.1 hk
    have h2 : at0 (List.replicate n (0 : Int)) k.f0 < k.f1 := h2
    have h3 : k.f1 ≤ at0 (List.replicate n (0 : Int)) k.f0 := h3
    omega
  obtain ⟨s, ⟨hs, hc⟩, hE⟩ := Ev.loop (F := fun k (s : Int × T63) => F k s.1 s.2) (fun s m => 0 ≤ s.1 ∧ s.1 + m = l.length ∧ Told n s.2 ∧ (cnt n s.2 : Int) ≤ s.1) (fun r => Told n r ∧ cnt n r ≤ l.length) (fun s m ⟨h0, hm, hs, hc⟩ => by
    obtain ⟨i, s⟩ := s
    simp only at h0 hm hs hc ⊢
    by_cases hi : i < (l.length : Int)
    case neg => exact .inl ⟨s, ⟨hs, by omega⟩, Ev.step (fun k => hF k i s) (Ev.neg hi (Ev.now _))⟩
    obtain ⟨s', hA, hs', hc'⟩ := play_told hs h1 hn (l.getD i.toNat z36)
    refine .inr ⟨(i + 1, s'), m - 1, by omega, ⟨by simp only; omega, by simp only; omega, hs', by simp only; omega⟩, fun r H => ?_⟩
    refine Ev.step (fun k => hF k i s) (Ev.pos hi (Ev.pos (by omega) ?_))
    refine Ev.bind hA ?_
    rw [i64w (by omega)]; exact H) (0, newS n) l.length ⟨by simp, by simp, Told.new n, by simp only [c0]; omega⟩
  exact ⟨s, hE, hs, hc⟩
theorem StateLacks : StateLacks_Pure := by
  intro a l l' q ha hl hl' hq
  apply Ev.rounds
  unfold grapevinelaw19_StateLacks
  have aw : Ev (fun k => (grapevinelaw19_awake k).bind fun t => some t) true := Ev.bind awake_ev (Ev.now _)
  by_cases ha : 1 ≤ a ∧ a ≤ 8
  case neg =>
    rw [New_none ha]
    refine Ev.name fun t ht => ?_
    subst ht
    simp only [Option.elim_none]
    refine Ev.name fun t ht => ?_
    subst ht
    simp only [Option.elim_none]
    exact aw
  obtain ⟨n, rfl⟩ : ∃ n : Nat, a = n := ⟨a.toNat, by omega⟩
  have h1 : 1 ≤ n := by omega
  have hn : n ≤ 8 := by omega
  rw [New_some h1 hn]
  refine Ev.name fun t ht => ?_
  subst ht
  simp only [Option.elim_some]
  refine Ev.name fun t ht => ?_
  subst ht
  simp only [Option.elim_some]
  obtain ⟨g, hg, hgs⟩ := great_ev l (m := 25) (by omega)
  obtain ⟨g', hg', hgs'⟩ := great_ev l' (m := 25) (by omega)
  cases g with
  | true => exact Ev.bind (b := true) (Ev.bind hg (Ev.pos rfl (Ev.now _))) (Ev.pos rfl aw)
  | false =>
  cases g' with
  | true => exact Ev.bind (b := true) (Ev.bind hg (Ev.neg Bool.false_ne_true (Ev.bind hg' (Ev.now _)))) (Ev.pos rfl aw)
  | false =>
  refine Ev.bind (b := false) (Ev.bind hg (Ev.neg Bool.false_ne_true (Ev.bind hg' (Ev.now _)))) ?_
  refine Ev.neg Bool.false_ne_true ?_
  obtain ⟨hlen, _⟩ := hgs rfl
  obtain ⟨hlen', _⟩ := hgs' rfl
  obtain ⟨s, hsE, hs, hsc⟩ := plays h1 hn l (by omega) (F := fun k i y => grapevinelaw19_StateLacks_l0 l k i y) (fun k i y => by rw [grapevinelaw19_StateLacks_l0])
  obtain ⟨b, hbE, hb, hbc⟩ := plays h1 hn l' (by omega) (F := fun k i y => grapevinelaw19_StateLacks_l1 l' k i y) (fun k i y => by rw [grapevinelaw19_StateLacks_l1])
  refine Ev.bind hsE ?_
  refine Ev.bind hbE ?_
  have hmany : ∃ m, m = IntKind.i64.wrap (1 + IntKind.i64.wrap (Int.tmod (IntKind.u64.wrap q) 5)) ∧ 1 ≤ m ∧ m ≤ 5 := by
    refine ⟨_, rfl, ?_⟩
    have h0 : 0 ≤ IntKind.u64.wrap q := by rw [IntKind.wrap_u64]; omega
    generalize IntKind.u64.wrap q = u at h0
    have e1 := Int.tmod_nonneg 5 h0
    have e2 := Int.tmod_lt_of_pos u (show (0 : Int) < 5 by omega)
    rw [i64w (show -9223372036854775808 ≤ Int.tmod u 5 ∧ Int.tmod u 5 < 9223372036854775808 by omega), i64w (by omega)]; omega
  obtain ⟨m, hm, hm1, hm5⟩ := hmany
  rw [← hm]
  refine Ev.name fun m' hm' => ?_
  subst hm'
  refine Ev.bind (Join_ev hs.1 hb.1 h1 hn) ?_
  simp only [Option.elim_some]
  obtain ⟨w, hw, hwT, w0, w1⟩ := Retold hs hb
  rw [← hw]
  have hsv := hs.1.v.1
  have hbv := hb.1.v.1
  have hsw := hs.1.w.1
  have hbw := hb.1.w.1
  have hVJ := hwT.1.v
  have hWJ := hwT.1.w
  have lacks : ∀ y, Told n y → y.f1 = w.f1 → Ev (fun k => state_State_Lacks k b y.f0 y.f1) ((kAll n b.f0 y.f0).map fun k => rk k.f0 k.f1) := fun y hy e1 => by
    have hbl : Le n b.f1 y.f0 := fun i hi => by
      have h1 := hy.1.le i hi
      rw [e1, w1, getD_zip hsw hbw hi] at h1
      have := (mx_le (s.f1.getD i 0) (b.f1.getD i 0)).2
      omega
    exact (Lacks_ev hb.1 h1 hn hy.1.v hy.1.w hy.1.le hbl).is (recs_told hb hbl)
  -- what the rounds come to
  obtain ⟨r, hr, hE⟩ := Ev.loop (F := fun k (p : Int × T63) => grapevinelaw19_StateLacks_l4 b m' k p.1 p.2)
    (fun p d => 0 ≤ p.1 ∧ Told n p.2 ∧ zip mx p.2.f1 b.f1 = w.f1 ∧ zip mx p.2.f0 b.f0 = w.f0 ∧ d = (kAll n b.f0 (zip mx p.2.f0 w.f1)).length ∧ p.1 + d ≤ 100)
    (fun r => ∃ y, r = Sum.inr y ∧ y = w ∧ kAll n b.f0 y.f0 = []) (fun p d ⟨h0, hy, e1, e0, hd, hsum⟩ => by
      obtain ⟨i, y⟩ := p
      simp only at h0 hy e1 e0 hd hsum ⊢
      obtain ⟨y', hy'⟩ : ∃ y', y' = raiseS y b.f1 := ⟨_, rfl⟩
      have hT' : Told n y' := by rw [hy']; exact hy.raise hb.1.w
      have f1' : y'.f1 = w.f1 := by rw [hy']; exact e1
      have f0' : y'.f0 = zip mx y.f0 w.f1 := by rw [hy', ← e1]; rfl
      have e0' : zip mx y'.f0 b.f0 = w.f0 := by
        refine vec_ext (len_zip hT'.1.v.1 hbv) hVJ.1 fun j hj => ?_
        have q1 : mx (y.f0.getD j 0) (b.f0.getD j 0) = w.f0.getD j 0 := by rw [← getD_zip (f := mx) hy.1.v.1 hbv hj, e0]
        have q2 := hwT.1.le j hj
        rw [getD_zip hT'.1.v.1 hbv hj, f0', getD_zip hy.1.v.1 hWJ.1 hj]
        rw [← q1] at q2 ⊢
        unfold mx at q2 ⊢
        split at q2 <;> split <;> (try split) <;> omega
      rw [← f0'] at hd
      have hL := lacks y' hT' f1'
      have open_ : ∀ {r : Sum Bool T63}, Ev (fun k => if (((kAll n b.f0 y'.f0).map fun k => rk k.f0 k.f1).length : Int) = 0 then some (Sum.inr y') else ((grapevinelaw19_StateLacks_l5 m' ((kAll n b.f0 y'.f0).map fun k => rk k.f0 k.f1) k 0 y').bind fun os => match os with | Sum.inl r => some (Sum.inl r) | Sum.inr z => grapevinelaw19_StateLacks_l4 b m' k (IntKind.i64.wrap (i + 1)) z)) r → Ev (fun k => grapevinelaw19_StateLacks_l4 b m' k i y) r := fun H => by
        refine Ev.step (fun k => by rw [grapevinelaw19_StateLacks_l4]) ?_
        refine Ev.pos (by omega) ?_
        rw [W_eq hb.1 hn]
        refine Ev.name fun v hv => ?_
        rw [hv]
        refine Ev.bind ((Raise_ev hy.1 h1 hn hb.1.w).is (by rw [← hy'])) ?_
        rw [V_eq hT'.1 hn, W_eq hT'.1 hn]
        refine Ev.name fun v hv => ?_
        rw [hv]
        refine Ev.name fun v hv => ?_
        rw [hv]
        refine Ev.bind hL ?_
        exact H
      have hbw' : Le n b.f1 w.f1 := fun j hj => by rw [w1, getD_zip hsw hbw hj]; exact (mx_le _ _).2
      by_cases hnil : kAll n b.f0 y'.f0 = []
      · refine .inl ⟨_, ⟨y', rfl, ?_, hnil⟩, open_ (Ev.pos (by rw [hnil]; rfl) (Ev.now _))⟩
        refine told_eq hT' hwT ?_ f1'
        rw [← e0', zip_le hT'.1.v.1 hbv (kAll_nil hnil)]
      · have hpos : 0 < (kAll n b.f0 y'.f0).length := List.length_pos_iff.2 hnil
        obtain ⟨z, hzE, hzT, z1, z0, zl⟩ := some_keys hT' hn hb.1.v ⟨hm1, hm5⟩ (by omega)
        have zz : zip mx z.f0 w.f1 = z.f0 := zip_le hzT.1.v.1 hWJ.1 (by rw [← f1', ← z1]; exact hzT.1.le)
        refine .inr ⟨(i + 1, z), (kAll n b.f0 z.f0).length, by omega, ⟨by simp only; omega, hzT, ?_, ?_, by simp only [zz], by simp only; omega⟩, fun r H => ?_⟩
        · rw [z1, f1']; exact zip_le hWJ.1 hbw hbw'
        · exact z0.trans e0'
        · refine open_ (Ev.neg (by rw [List.length_map]; omega) ?_)
          refine Ev.bind hzE ?_
          rw [i64w (by omega)]; exact H) (0, s) (kAll n b.f0 (zip mx s.f0 w.f1)).length ⟨by simp, hs, w1.symm, w0.symm, rfl, by
      have : (kAll n b.f0 (zip mx s.f0 w.f1)).length ≤ (kAll n b.f0 b.f1).length := nodup_len (kAll_nodup _ _ _) fun k hk => by
        obtain ⟨g0, g2, g3⟩ := kAll_mem.1 hk
        refine kAll_mem.2 ⟨g0, ?_, g3⟩
        rw [at0_zip hsv hWJ.1 g0, w1, at0_zip hsw hbw g0] at g2
        have q1 := (mx_le (at0 s.f0 k.f0) (mx (at0 s.f1 k.f0) (at0 b.f1 k.f0))).2
        have q2 := (mx_le (at0 s.f1 k.f0) (at0 b.f1 k.f0)).2
        omega
      have hc : (kAll n b.f0 b.f1).length ≤ l'.length := hbc
      simp only
      omega⟩
  obtain ⟨y, rfl, rfl, hnil⟩ := hr
  refine Ev.bind hE ?_
  refine Ev.bind (b := true) ?_ (Ev.now _)
  refine Ev.bind (Same_self hwT.1 hn) (Ev.pos rfl ?_)
  rw [V_eq hwT.1 hn, W_eq hwT.1 hn]
  refine Ev.name fun v hv => ?_
  subst hv
  refine Ev.name fun v hv => ?_
  subst hv
  refine Ev.bind (lacks _ hwT rfl) (Ev.pos (by rw [hnil]; rfl) aw)
end Go.Proofs.YtjefgmglgphdbaaDoor.Pure
