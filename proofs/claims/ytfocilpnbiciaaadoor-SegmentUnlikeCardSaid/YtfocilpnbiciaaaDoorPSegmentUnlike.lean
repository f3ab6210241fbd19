/- SegmentUnlike: unlike entries have unlike bytes; an entry is read by those for whom it may be. -/
import Derived.Test.YtfocilpnbiciaaaDoorF6
import Derived.Test.YtfocilpnbiciaaaDoorPSeg3
import Derived.Test.YtfocilpnbiciaaaDoorLSegmentUnlike
namespace Go.Proofs.YtfocilpnbiciaaaDoor.Pure
open Go Go.Gg Go.Gp Gf
set_option linter.unusedVariables false
set_option linter.unusedSimpArgs false
theorem laid_inj {a b : T41} (ha : Some8 a) (hb : Some8 b) : frameOf a.f0 (bodyE a) = frameOf b.f0 (bodyE b) ↔ a = b := by
  have h1 := ha.body
  have h2 := hb.body
  constructor
  · intro h
    obtain ⟨h3, h4⟩ := frame_inj (by omega) (by omega) (by omega) (by omega) h
    exact bodyE_inj ha hb h3 h4
  · intro h; rw [h]
theorem getD_rep (n i : Nat) : (List.replicate n (0 : Int)).getD i 0 = 0 := by
  by_cases h : i < n
  · rw [getD_eq _ 0 (by simpa using h)]; simp
  · exact getD_over _ 0 (by simp; omega)
theorem zeros_may (n : Nat) (h1 : 1 ≤ n) (h8 : n ≤ 8) : MayV (n : Int) (List.replicate n 0) := by
  refine ⟨⟨by omega, by omega, by simp⟩, fun i _ => ?_⟩
  rw [getD_rep]; omega
def baseN (n : Nat) : T41 := ⟨1, List.replicate n 0, List.replicate n 0, 0, 0, 0, 0, ⟨#[]⟩⟩
theorem baseN_may (n : Nat) (h1 : 1 ≤ n) (h8 : n ≤ 8) : MayE (baseN n) (n : Int) := by
  refine (MayE.one rfl).2 ⟨rfl, zeros_may n h1 h8, zeros_may n h1 h8, rfl, fun i _ => Int.le_refl _⟩
theorem SegmentUnlike : SegmentUnlike_Pure := by
  intro a b m ha hb hm
  refine Ev.rounds (f := fun k => grapevinelaw8_SegmentUnlike k a b m) ?_
  unfold grapevinelaw8_SegmentUnlike
  have hg : ∀ x : T41, ∃ g, grapevinelaw8_great x = some g := fun x => by
    unfold grapevinelaw8_great
    split
    · exact ⟨_, rfl⟩
    · split <;> exact ⟨_, rfl⟩
  obtain ⟨ga, hga⟩ := hg a
  obtain ⟨gb, hgb⟩ := hg b
  simp only [hga, hgb, Option.bind_some]
  refine Ev.bind (b := (ga || gb)) ((Ev.now _).congr fun k => by cases ga <;> simp) ?_
  refine Ev.ite (fun h => Ev.bind awake8_ev (Ev.now _)) (fun h => ?_)
  obtain ⟨t, ht, h0, h8⟩ := low_some (a := m) (b := 8) (by omega)
  simp only [ht, Option.bind_some]
  refine Ev.bind (sLay_ev a) (Ev.bind (sLay_ev b) ?_)
  unfold laidE
  by_cases sa : Some8 a
  case neg =>
    rw [if_neg sa]
    refine Ev.bind (b := true) (Ev.pos (by simp) (Ev.now _)) (Ev.pos rfl (Ev.bind (b := true) (Ev.neg (by simp) (Ev.pos (by simp) ?_)) (Ev.now _)))
    by_cases sb : Some8 b
    · rw [if_pos sb]; exact Ev.pos rfl (Ev.bind awake8_ev (Ev.now _))
    · rw [if_neg sb]; exact Ev.neg (by simp) (Ev.pos (by simp) (Ev.bind awake8_ev (Ev.now _)))
  rw [if_pos sa]
  by_cases sb : Some8 b
  case neg =>
    rw [if_neg sb]
    exact Ev.bind (b := true) (Ev.neg (by simp) (Ev.now _)) (Ev.pos rfl (Ev.bind (b := true) (Ev.pos rfl (Ev.neg (by simp) (Ev.pos (by simp) (Ev.bind awake8_ev (Ev.now _))))) (Ev.now _)))
  rw [if_pos sb]
  have ba := sa.body
  have bb := sb.body
  have la : (frameOf a.f0 (bodyE a)).length ≤ 152 := by rw [len_frameOf]; omega
  refine Ev.bind (b := false) (Ev.neg (by simp) (Ev.now _)) (Ev.neg (by simp) ?_)
  have hla : a.f1.length ≤ 8 ∧ a.f2.length ≤ 8 := by obtain ⟨i, _, h⟩ := sa; exact h.lens
  refine Ev.bind (SameBytes_ev _ _ (by simp only; omega)) (Ev.bind (sSame_ev (by omega) (by omega)) ?_)
  rw [dec_iff (laid_inj sa sb)]
  refine Ev.neg (by simp) ?_
  obtain ⟨n, hn⟩ : ∃ n : Nat, IntKind.i64.wrap (1 + t) = (n : Int) := ⟨(1 + t).toNat, by rw [i64w (by omega)]; omega⟩
  have hn1 : 1 ≤ n ∧ n ≤ 8 := by rw [i64w (by omega)] at hn; omega
  rw [hn]
  simp only [Int.toNat_natCast]
  have hbm := baseN_may n hn1.1 hn1.2
  have hbb := hbm.some8.body
  have lb : (frameOf 1 (bodyE (baseN n))).length ≤ 152 := by rw [len_frameOf]; omega
  have lb0 : 0 < (frameOf 1 (bodyE (baseN n))).length := by rw [len_frameOf]; omega
  refine Ev.bind (b := (frameOf 1 (bodyE (baseN n)), 0)) (Ev.pos (by omega) (Ev.pos (by omega) (Ev.bind ((sLay_ev (baseN n)).is (if_pos hbm.some8)) (Ev.now _)))) ?_
  refine Ev.pos (by simp only [List.length_nil]; omega) (Ev.pos (by simp only [List.nil_append]; omega) ?_)
  simp only [List.nil_append]
  have hby : Bytes (frameOf 1 (bodyE (baseN n)) ++ frameOf a.f0 (bodyE a)) := (frameOf_bytes _ hbb.2.2).app (frameOf_bytes _ ba.2.2)
  have h1 := segR_next hbm (pre := []) (post := frameOf a.f0 (bodyE a)) (by simp [baseN]) ((frameOf 1 (bodyE (baseN n)) ++ frameOf a.f0 (bodyE a)).length) []
  simp only [List.nil_append, List.length_nil, Nat.zero_add] at h1
  have h1 : segS (frameOf 1 (bodyE (baseN n)) ++ frameOf a.f0 (bodyE a)) (n : Int) = _ := h1
  rw [show (frameOf (baseN n).f0 (bodyE (baseN n))) = frameOf 1 (bodyE (baseN n)) from rfl] at h1
  by_cases h2 : MayE a (n : Int) ∧ a.f0 ≠ 1
  · have hrd : segS (frameOf 1 (bodyE (baseN n)) ++ frameOf a.f0 (bodyE a)) (n : Int) = ([baseN n, a], (((frameOf 1 (bodyE (baseN n))).length + (frameOf a.f0 (bodyE a)).length : Nat) : Int)) := by
      rw [h1]
      obtain ⟨f, hf⟩ : ∃ f, (frameOf 1 (bodyE (baseN n)) ++ frameOf a.f0 (bodyE a)).length = f + 1 := ⟨(frameOf 1 (bodyE (baseN n)) ++ frameOf a.f0 (bodyE a)).length - 1, by rw [List.length_append]; omega⟩
      rw [hf]
      have h3 := segR_next h2.1 (pre := frameOf 1 (bodyE (baseN n))) (post := []) (by have := h2.2; omega) f [baseN n]
      rw [List.append_nil] at h3
      refine h3.trans ?_
      exact segR_stop (.inl (nextS_end _ (by rw [List.length_append]; omega))) _ _
    refine Ev.bind ((sRead_ev hby (by rw [List.length_append]; omega) (n : Int)).is hrd) ?_
    refine Ev.bind (b := true) (Ev.bind ((sMay_ev _ _).is (decide_eq_true h2.1)) (Ev.pos rfl ((Ev.now _).is (bne_iff_ne.2 h2.2)))) ?_
    refine Ev.bind (b := (true, a)) (Ev.pos (by simp) (Ev.pos rfl (Ev.pos (by simp) (Ev.pos (by simp) ?_)))) (Ev.now _)
    refine Ev.bind ((sSame_ev (by simp; omega) (by simp; omega)).is (decide_eq_true (by simp))) (Ev.pos rfl (Ev.pos ?_ (Ev.bind awake8_ev (Ev.now _))))
    simp only
    rw [i64w (by omega)]; omega
  · have hrd : segS (frameOf 1 (bodyE (baseN n)) ++ frameOf a.f0 (bodyE a)) (n : Int) = ([baseN n], ((frameOf 1 (bodyE (baseN n))).length : Int)) := by
      rw [h1]
      have h3 := nextS_frame (kind := a.f0) (body := bodyE a) (ahead := frameOf 1 (bodyE (baseN n))) (rest := []) (by omega) (by omega)
      rw [List.append_nil] at h3
      refine segR_stop (.inr ?_) _ _
      rw [h3]
      simp only
      by_cases h4 : a.f0 = 1
      · exact .inl fun h => by have := h.1 h4; omega
      · refine .inr ?_
        rw [readE_body sa, if_neg (fun h => h2 ⟨h, h4⟩)]
    refine Ev.bind ((sRead_ev hby (by rw [List.length_append]; omega) (n : Int)).is hrd) ?_
    have hs : Ev (fun k => (segment_May k a (n : Int)).bind fun t95 => if t95 = true then some (a.f0 != 1) else some false) false := by
      refine Ev.bind (sMay_ev _ _) ?_
      by_cases h4 : MayE a (n : Int)
      · refine Ev.pos (decide_eq_true h4) ((Ev.now _).is ?_)
        have : a.f0 = 1 := Classical.byContradiction fun h => h2 ⟨h4, h⟩
        simp [this]
      · exact Ev.neg (by simpa using h4) (Ev.now _)
    refine Ev.bind hs ?_
    exact Ev.bind (b := (true, a)) (Ev.pos (by simp) (Ev.neg (by simp) (Ev.pos (by simp) (Ev.pos (by simp) (Ev.pos rfl (Ev.bind awake8_ev (Ev.now _))))))) (Ev.now _)
end Go.Proofs.YtfocilpnbiciaaaDoor.Pure
