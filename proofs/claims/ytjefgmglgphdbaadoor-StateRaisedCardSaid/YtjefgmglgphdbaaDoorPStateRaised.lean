/- The plain law of StateRaised. -/
import Derived.Test.YtjefgmglgphdbaaDoorF1
import Derived.Test.YtjefgmglgphdbaaDoorF2
import Derived.Test.YtjefgmglgphdbaaDoorLStateRaised
import Derived.Test.YtjefgmglgphdbaaDoorPSt4
namespace Go.Proofs.YtjefgmglgphdbaaDoor.Pure
open Go Go.Gg Go.Gp Gf
set_option linter.unusedVariables false
set_option linter.unusedSimpArgs false
theorem mayR_dec {n : Nat} (h1 : 1 ≤ n) (hn : n ≤ 8) (x : List Int) : ∃ b, Ev (fun k => grapevineref3_May k x (n : Int)) b ∧ (b = true ↔ Vec n x) := by
  have many : grapevineref3_Many (n : Int) = some true := by
    unfold grapevineref3_Many
    rw [if_pos (by omega), decide_eq_true (by omega)]; rfl
  unfold grapevineref3_May
  rw [many]
  by_cases hl : x.length = n
  case neg =>
    refine ⟨false, ?_, by simp; exact fun hv => hl hv.1⟩
    refine Ev.bind (b := true) (Ev.name fun t ht => ?_) (Ev.pos rfl (Ev.now _))
    subst ht
    exact Ev.neg (by simp) ((Ev.now _).is (by rw [bne_iff_ne]; omega))
  obtain ⟨r, hr, hE⟩ := Ev.loop (F := fun k (i : Int) => grapevineref3_May_l0 x (n : Int) k i) (fun i m => 0 ≤ i ∧ i + m = n ∧ ∀ j : Nat, (j : Int) < i → 0 ≤ x.getD j 0 ∧ x.getD j 0 ≤ 1023) (fun r => r = Sum.inl false ∧ ¬ Vec n x ∨ r = Sum.inr () ∧ Vec n x) (fun i m ⟨h0, hm, hall⟩ => by
    by_cases hi : i < n
    · by_cases hb : 0 ≤ x.getD i.toNat 0 ∧ x.getD i.toNat 0 ≤ 1023
      · refine .inr ⟨i + 1, m - 1, by omega, ⟨by omega, by omega, fun j hj => ?_⟩, fun r H => ?_⟩
        · by_cases e : (j : Int) = i
          · have : j = i.toNat := by omega
            rw [this]; exact hb
          · exact hall j (by omega)
        · refine Ev.step (fun k => by rw [grapevineref3_May_l0]) ?_
          refine Ev.pos (by omega) ?_
          refine Ev.bind (b := false) (Ev.pos (by omega) (Ev.neg (by omega) (Ev.pos (by omega) ((Ev.now _).is (decide_eq_false (by omega)))))) ?_
          refine Ev.neg Bool.false_ne_true ?_
          rw [i64w (by omega)]; exact H
      · refine .inl ⟨Sum.inl false, .inl ⟨rfl, fun hv => hb (hv.2 _)⟩, ?_⟩
        refine Ev.step (fun k => by rw [grapevineref3_May_l0]) ?_
        refine Ev.pos (by omega) ?_
        refine Ev.bind (b := true) (Ev.pos (by omega) (Ev.ite (fun _ => Ev.now _) (fun _ => Ev.pos (by omega) ((Ev.now _).is (decide_eq_true (by omega)))))) ?_
        exact Ev.pos rfl (Ev.now _)
    · refine .inl ⟨Sum.inr (), .inr ⟨rfl, Vec.of hl fun j hj => hall j (by omega)⟩, ?_⟩
      refine Ev.step (fun k => by rw [grapevineref3_May_l0]) ?_
      exact Ev.neg (by omega) (Ev.now _)) 0 n ⟨by omega, by omega, fun j hj => by omega⟩
  have start : ∀ {g : Nat → Option Bool} {r : Bool}, Ev g r → Ev (fun k => ((some true).bind fun t3 => if (!t3) = true then some true else some ((x.length : Int) != (n : Int))).bind fun s1 => if s1 = true then some false else g k) r := fun hg =>
    Ev.bind (b := false) (Ev.name fun t ht => by subst ht; exact Ev.neg (by simp) ((Ev.now _).is (by rw [hl]; simp))) (Ev.neg Bool.false_ne_true hg)
  rcases hr with ⟨rfl, hv⟩ | ⟨rfl, hv⟩
  · exact ⟨false, start (Ev.bind hE (Ev.now _)), by simp [hv]⟩
  · exact ⟨true, start (Ev.bind hE (Ev.now _)), by simp [hv]⟩
theorem joinR_ev {n : Nat} {a b : List Int} (ha : a.length = n) (hb : b.length = n) (hn : n ≤ 8) : Ev (fun k => grapevineref3_Join k [a, b]) (zip mx a b) := by
  unfold grapevineref3_Join grapevineref3_fold
  refine Ev.bind ?_ (Ev.now _)
  refine Ev.neg (by simp) (Ev.pos (by simp) (Ev.pos (by simp; omega) ?_))
  refine Ev.name fun t ht => ?_
  have ht : t = a := ht
  subst ht
  refine Ev.bind (b := Sum.inr (zip mx t b)) ?_ (Ev.now _)
  refine Ev.step (fun k => by rw [grapevineref3_fold_l0]) ?_
  refine Ev.pos (by simp) (Ev.pos (by simp) (Ev.neg (by simp [ha, hb]) ?_))
  have key := Ev.count (F := fun k (y : List Int) i => grapevineref3_fold_l1 [t, b] true 1 k i y) (r := zip mx t b) (fun i => cross mx t b i) n (fun i hi r H => by
    refine Ev.step (fun k => by rw [grapevineref3_fold_l1]) ?_
    have hc := cross_len (f := mx) ha hb (i := i) (by omega)
    refine Ev.pos (by omega) (Ev.pos rfl (Ev.pos (by omega) (Ev.pos (by simp) (Ev.pos (by simp [hb]; omega) (Ev.pos (by omega) ?_)))))
    rw [Int.toNat_natCast, show ([t, b].getD (1 : Int).toNat []) = b from rfl, cross_get ha hb hi, step64 i (by omega)]
    have e := cross_set (f := mx) ha hb hi
    unfold mx at e
    rw [show (if b.getD i 0 > t.getD i 0 then b.getD i 0 else t.getD i 0) = mx (t.getD i 0) (b.getD i 0) from rfl, cross_set ha hb hi]
    exact H) (by
    refine Ev.step (fun k => by rw [grapevineref3_fold_l1]) ?_
    have hc := cross_len (f := mx) ha hb (i := n) (by omega)
    exact Ev.neg (by omega) ((Ev.now _).is (cross_all ha hb)))
  refine Ev.bind (by simpa [cross_zero] using key) ?_
  refine Ev.step (fun k => by rw [grapevineref3_fold_l0]) ?_
  exact Ev.neg (by simp; decide) (Ev.now _)
theorem pick_loop (R : List T34) (top : List Int) (n : Nat) (ht : top.length = n) (hR : R.length ≤ 100000) (hin : ∀ r ∈ R, 0 ≤ r.f0 ∧ r.f0 < n) :
    Ev (fun k => grapevinelaw19_StateRaised_l1 R (R.filter fun r => decide (at0 top r.f0 < r.f1)) top k 0 0) (Sum.inr ()) := by
  obtain ⟨q, hq⟩ : ∃ q : T34 → Bool, q = fun r => decide (at0 top r.f0 < r.f1) := ⟨_, rfl⟩
  rw [← hq]
  have := Ev.count (F := fun k (a : Nat) i => grapevinelaw19_StateRaised_l1 R (R.filter q) top k (a : Int) i) (r := Sum.inr ()) (fun i => ((R.take i).filter q).length) R.length (fun i hi r H => by
    have hx : R.getD i z34 ∈ R := by rw [getD_eq R z34 hi]; exact List.getElem_mem _
    obtain ⟨x, hxe⟩ : ∃ x, x = R.getD i z34 := ⟨_, rfl⟩
    rw [← hxe] at hx
    have hin' := hin x hx
    have htake : R.take (i + 1) = R.take i ++ [x] := by rw [take_getD R z34 hi, ← hxe]
    refine Ev.step (fun k => by rw [grapevinelaw19_StateRaised_l1]) ?_
    rw [Int.toNat_natCast, Int.toNat_natCast, ← hxe]
    refine Ev.pos (by omega) (Ev.pos (by omega) (Ev.pos (by omega) (Ev.pos ⟨hin'.1, by omega⟩ ?_)))
    have hlen : ((R.take i).filter q).length ≤ i := Nat.le_trans (List.length_filter_le _ _) (by rw [List.length_take]; omega)
    have eat : top.getD x.f0.toNat 0 = at0 top x.f0 := rfl
    rw [eat]
    by_cases c : at0 top x.f0 < x.f1
    · have hqx : q x = true := by rw [hq]; exact decide_eq_true c
      have hL : (R.filter q)[((R.take i).filter q).length]? = some x := by
        conv => lhs; arg 1; rw [← List.take_append_drop (i + 1) R, htake]
        rw [List.filter_append, List.filter_append, List.append_assoc, List.getElem?_append_right (by omega)]
        simp [hqx]
      obtain ⟨e1, e2⟩ := getD_some (d := z34) hL
      refine Ev.pos c ?_
      refine Ev.bind (b := false) (Ev.neg (by omega) (Ev.pos (by omega) (Ev.pos (by omega) ((Ev.now _).is (by rw [e1]; simp))))) ?_
      refine Ev.neg Bool.false_ne_true ?_
      rw [step64 i (by omega), step64 _ (by omega)]
      rw [htake, List.filter_append] at H
      simpa [hqx] using H
    · have hqx : q x = false := by rw [hq]; exact decide_eq_false c
      refine Ev.neg (by omega) ?_
      rw [step64 i (by omega)]
      rw [htake, List.filter_append] at H
      simpa [hqx] using H) (by
    refine Ev.step (fun k => by rw [grapevinelaw19_StateRaised_l1]) ?_
    exact Ev.neg (by omega) (Ev.now _))
  simpa using this
theorem StateRaised : StateRaised_Pure := by
  intro a l x ha hl hx
  apply Ev.rounds
  unfold grapevinelaw19_StateRaised
  have aw : Ev (fun k => (grapevinelaw19_awake k).bind fun t => some t) true := Ev.bind awake_ev (Ev.now _)
  by_cases ha : 1 ≤ a ∧ a ≤ 8
  case neg =>
    rw [New_none ha]
    refine Ev.name fun t ht => ?_
    subst ht
    simp only [Option.elim_none]
    exact aw
  obtain ⟨n, rfl⟩ : ∃ n : Nat, a = n := ⟨a.toNat, by omega⟩
  have h1 : 1 ≤ n := by omega
  have hn : n ≤ 8 := by omega
  rw [New_some h1 hn]
  refine Ev.name fun t ht => ?_
  subst ht
  simp only [Option.elim_some]
  obtain ⟨g, hg, hgs⟩ := great_ev l (m := 30) (by omega)
  cases g with
  | true => exact Ev.bind (b := true) (Ev.bind hg (Ev.pos rfl (Ev.now _))) (Ev.pos rfl aw)
  | false =>
    by_cases hx20 : (x.length : Int) > 20
    · exact Ev.bind (b := true) (Ev.bind hg (Ev.neg Bool.false_ne_true ((Ev.now _).is (decide_eq_true hx20)))) (Ev.pos rfl aw)
    refine Ev.bind (b := false) (Ev.bind hg (Ev.neg Bool.false_ne_true ((Ev.now _).is (decide_eq_false hx20)))) ?_
    refine Ev.neg Bool.false_ne_true ?_
    obtain ⟨hlen, hall⟩ := hgs rfl
    obtain ⟨s, hs, hE⟩ := Ev.loop (F := fun k (s : Int × T63) => grapevinelaw19_StateRaised_l0 l k s.1 s.2) (fun s m => 0 ≤ s.1 ∧ s.1 + m = l.length ∧ Good n s.2) (fun r => Good n r) (fun s m ⟨h0, hm, hs⟩ => by
      obtain ⟨i, s⟩ := s
      simp only at h0 hm hs ⊢
      by_cases hi : i < (l.length : Int)
      case neg =>
        refine .inl ⟨s, hs, ?_⟩
        refine Ev.step (fun k => by rw [grapevinelaw19_StateRaised_l0]) ?_
        exact Ev.neg hi (Ev.now _)
      obtain ⟨s', hA, hs'⟩ := play_good hs h1 hn (l.getD i.toNat z36)
      refine .inr ⟨(i + 1, s'), m - 1, by omega, ⟨by simp only; omega, by simp only; omega, hs'⟩, fun r H => ?_⟩
      refine Ev.step (fun k => by rw [grapevinelaw19_StateRaised_l0]) ?_
      refine Ev.pos hi (Ev.pos (by omega) ?_)
      refine Ev.bind hA ?_
      rw [i64w (by omega)]; exact H) (0, newS n) l.length ⟨by simp, by simp, Good.new n⟩
    refine Ev.bind hE ?_
    rw [V_eq hs hn, W_eq hs hn]
    refine Ev.name fun v hv => ?_
    subst hv
    refine Ev.name fun w hw => ?_
    subst hw
    refine Ev.bind (Records_ev hs hn) ?_
    refine Ev.bind (whole_ev hs hn) ?_
    refine Ev.neg (by simp) ?_
    have hvl := hs.v.1
    have hwl := hs.w.1
    have hK := kAll_len hs.v hs.w n
    have hRl : (recs n s s.f1).length = (kAll n s.f0 s.f1).length := by simp [recs]
    by_cases hv : Vec n x
    case neg =>
      refine Ev.bind (Raise_no hs h1 hn hv) ?_
      refine Ev.pos (by simp) ?_
      refine Ev.bind (b := true) ?_ (Ev.now _)
      refine Ev.pos (by simp) ?_
      obtain ⟨b, hb, hbv⟩ := mayR_dec h1 hn x
      have hb0 : b = false := by cases b with | true => exact absurd (hbv.1 rfl) hv | false => rfl
      subst hb0
      refine Ev.bind hb (Ev.pos rfl ?_)
      simp only
      rw [V_eq hs hn, W_eq hs hn]
      refine Ev.name fun v hv => ?_
      subst hv
      refine Ev.bind (SameInts_ev _ _ (by omega)) (Ev.pos (by simp) ?_)
      refine Ev.name fun w hw => ?_
      subst hw
      refine Ev.bind (SameInts_ev _ _ (by omega)) (Ev.pos (by simp) ?_)
      refine Ev.bind (Records_ev hs hn) ?_
      exact Ev.bind (SameRecords_self _ (by omega)) (Ev.pos rfl aw)
    obtain ⟨s', hs'⟩ : ∃ s', s' = raiseS s x := ⟨_, rfl⟩
    have hg' : Good n s' := by rw [hs']; exact hs.raise hv
    have hR := Raise_ev hs h1 hn hv
    rw [← hs'] at hR
    have ml := hs.mlen
    have ml' := hg'.mlen
    have ek : kAll n s'.f0 s'.f1 = (kAll n s.f0 s.f1).filter fun k => decide (at0 (zip mx s.f1 x) k.f0 < k.f1) := by rw [hs']; exact kAll_raise hs.v hs.w hv
    have hle : (kAll n s'.f0 s'.f1).length ≤ (kAll n s.f0 s.f1).length := by rw [ek]; exact List.length_filter_le _ _
    rw [i64w (by omega)] at hR
    refine Ev.bind hR ?_
    refine Ev.neg (by simp only; omega) ?_
    simp only
    refine Ev.bind (Records_ev hg' hn) ?_
    have hRl' : (recs n s' s'.f1).length = (kAll n s'.f0 s'.f1).length := by simp [recs]
    have f1' : s'.f1 = zip mx s.f1 x := by rw [hs']; rfl
    have f0' : s'.f0 = zip mx s.f0 x := by
      rw [hs']
      show zip mx s.f0 (zip mx s.f1 x) = _
      refine vec_ext (len_zip hvl (len_zip hwl hv.1)) (len_zip hvl hv.1) fun i hi => ?_
      rw [getD_zip hvl (len_zip hwl hv.1) hi, getD_zip hwl hv.1 hi, getD_zip hvl hv.1 hi]
      have := hs.le i hi
      unfold mx
      split <;> split <;> (try split) <;> omega
    have hvl' := hg'.v.1
    have hwl' := hg'.w.1
    rw [V_eq hg' hn, W_eq hg' hn]
    refine Ev.bind (b := false) ?_ ?_
    · refine Ev.name fun w hw => ?_
      subst hw
      refine Ev.bind (joinR_ev hwl hv.1 hn) ?_
      refine Ev.bind (SameInts_ev _ _ (by omega)) (Ev.neg (by simp [f1']) ?_)
      refine Ev.name fun v' hv' => ?_
      subst hv'
      refine Ev.bind (joinR_ev hvl hv.1 hn) ?_
      refine Ev.bind (SameInts_ev _ _ (by omega)) (Ev.neg (by simp [f0']) ?_)
      refine Ev.neg (by rw [i64w (by omega)]; omega) ?_
      exact Ev.bind (whole_ev hg' hn) (Ev.now _)
    refine Ev.neg Bool.false_ne_true ?_
    refine Ev.bind (joinR_ev hwl hv.1 hn) ?_
    have hleft : recs n s' s'.f1 = (recs n s s.f1).filter fun r => decide (at0 (zip mx s.f1 x) r.f0 < r.f1) := by
      unfold recs
      rw [ek, List.filter_map]
      have e1 : (kAll n s.f0 s.f1).filter ((fun r : T34 => decide (at0 (zip mx s.f1 x) r.f0 < r.f1)) ∘ fun k => (s.f2 k).getD z34) = (kAll n s.f0 s.f1).filter fun k => decide (at0 (zip mx s.f1 x) k.f0 < k.f1) := by
        refine List.filter_congr fun k hk => ?_
        obtain ⟨r, hr⟩ := hs.all k (kAll_mem.1 hk)
        obtain ⟨_, e0, e1⟩ := hs.mem k r hr
        simp only [Function.comp_apply, hr, Option.getD_some, e0, e1]
      rw [e1]
      refine List.map_congr_left fun k hk => ?_
      have hlt : at0 (zip mx s.f1 x) k.f0 < k.f1 := by simpa using (List.mem_filter.1 hk).2
      rw [hs']
      simp only [raiseS, fcut]
      rw [if_neg (by omega)]
    rw [hleft]
    refine Ev.bind (pick_loop (recs n s s.f1) (zip mx s.f1 x) n (len_zip hwl hv.1) (by omega) fun r hr => ?_) ?_
    · obtain ⟨k, hk, rfl⟩ := List.mem_map.1 hr
      obtain ⟨r, hr⟩ := hs.all k (kAll_mem.1 hk)
      obtain ⟨hI, e0, e1⟩ := hs.mem k r hr
      rw [hr, Option.getD_some, e0]
      exact hI.1
    rw [← hleft]
    refine Ev.bind (b := (true, s')) ?_ (Ev.now _)
    refine Ev.name fun w hw => ?_
    subst hw
    have hR2 := Raise_ev hg' h1 hn hg'.w
    rw [raise_self hg'] at hR2
    refine Ev.bind hR2 (Ev.pos (by simp only; rw [i64w (by omega)]; omega) ?_)
    simp only
    refine Ev.bind (Records_ev hg' hn) ?_
    refine Ev.bind (SameRecords_self _ (by omega)) (Ev.pos rfl ?_)
    exact Ev.bind awake_ev (Ev.now _)
end Go.Proofs.YtjefgmglgphdbaaDoor.Pure
