/- The plain law of VectorSpans. -/
import Derived.Test.YtmphcmgbognmnaaLVectorSpans
import Derived.Test.YtmphcmgbognmnaaPVec
namespace Go.Proofs.Ytmphcmgbognmnaa.Pure
open Go Go.Gg Go.Gp Gf
set_option linter.unusedVariables false
theorem top0 {n k : Nat} {y : List Int} (hy : Vec n y) (o : Nat) : top y (List.replicate k 0) o = y.getD o 0 := by
  have := hy.2 o; unfold top; rw [getD_zero]; split <;> omega
theorem lk0_mem {n : Nat} {m y : List Int} (hy : Vec n y) {t : T63} (h : t ∈ lk m y (List.replicate n 0) n) : ∃ o : Nat, o < n ∧ y.getD o 0 < m.getD o 0 ∧ t.f0 = o ∧ t.f2 = m.getD o 0 - y.getD o 0 := by
  obtain ⟨o, h1, h2, rfl⟩ := lk_mem n h
  rw [top0 hy] at h2
  exact ⟨o, h1, h2, rfl, by simp only; rw [top0 hy]⟩
def gt (p : List T63) (b : List Int) : Nat → List Int
  | 0 => b
  | i + 1 => (gt p b i).set (p.getD i z63).f0.toNat ((gt p b i).getD (p.getD i z63).f0.toNat 0 + (p.getD i z63).f2)
theorem gt_len (p : List T63) (b : List Int) : ∀ i, (gt p b i).length = b.length
  | 0 => rfl
  | i + 1 => by rw [gt, List.length_set, gt_len p b i]
theorem gt_app (p q : List T63) (b : List Int) : ∀ i, i ≤ p.length → gt (p ++ q) b i = gt p b i
  | 0, _ => rfl
  | i + 1, h => by
    have e : (p ++ q).getD i z63 = p.getD i z63 := by rw [getD_eq (p ++ q) z63 (by simp; omega), getD_eq p z63 (by omega), List.getElem_append_left]
    rw [gt, gt, gt_app p q b i (by omega), e]
theorem gt_bound {n : Nat} {m y b : List Int} (hm : Vec n m) (hy : Vec n y) (hb : Vec n b) : ∀ i : Nat, i ≤ (lk m y (List.replicate n 0) n).length → ∀ j, 0 ≤ (gt (lk m y (List.replicate n 0) n) b i).getD j 0 ∧ (gt (lk m y (List.replicate n 0) n) b i).getD j 0 ≤ 1023 * (i + 1)
  | 0, _, j => by have := hb.2 j; simp only [gt]; omega
  | i + 1, h, j => by
    have ih := gt_bound hm hy hb i (by omega)
    obtain ⟨o, ho, h1, h2, h3⟩ := lk0_mem hy (getD_mem (lk m y (List.replicate n 0) n) z63 (by omega : i < _))
    have hmo := hm.2 o
    have hyo := hy.2 o
    have hj := ih j
    have hj' := ih o
    have hlen := gt_len (lk m y (List.replicate n 0) n) b i
    have hb1 := hb.1
    rw [gt, h2, h3, Int.toNat_natCast]
    by_cases e : j < n
    · by_cases e' : j = o
      · subst e'
        rw [getD_eq _ 0 (by rw [List.length_set]; omega), List.getElem_set_self]; omega
      · rw [getD_eq _ 0 (by rw [List.length_set]; omega), List.getElem_set_ne (fun x => e' x.symm), ← getD_eq _ 0]; omega
    · rw [getD_over _ 0 (by rw [List.length_set]; omega)]; omega
theorem gt_lk {n : Nat} {a b : List Int} (ha : Vec n a) (hb : Vec n b) : ∀ i, i ≤ n → gt (lk a b (List.replicate n 0) i) b (lk a b (List.replicate n 0) i).length = cross mx b a i
  | 0, _ => by rw [cross_zero]; rfl
  | i + 1, h => by
    have ih := gt_lk ha hb i (by omega)
    have hs := cross_set (f := mx) hb.1 ha.1 (by omega : i < n)
    have hg := cross_get (f := mx) hb.1 ha.1 (by omega : i < n)
    have hb1 := hb.1
    unfold lk
    rw [top0 hb]
    split
    · rename_i hlt
      rw [List.length_append]
      show gt _ b (_ + 1) = _
      have e1 : (lk a b (List.replicate n 0) i ++ [(⟨i, b.getD i 0 + 1, a.getD i 0 - b.getD i 0⟩ : T63)]).getD (lk a b (List.replicate n 0) i).length z63 = ⟨i, b.getD i 0 + 1, a.getD i 0 - b.getD i 0⟩ := by simp [List.getD_eq_getElem?_getD]
      rw [gt, gt_app _ _ _ _ (Nat.le_refl _), ih, e1]
      simp only [Int.toNat_natCast]
      rw [hg, ← hs]
      congr 1; unfold mx; rw [if_pos (by omega)]; omega
    · rename_i hlt
      rw [ih, ← hs]
      have e : mx (b.getD i 0) (a.getD i 0) = (cross mx b a i).getD i 0 := by rw [hg]; unfold mx; rw [if_neg (by omega)]
      have hl := cross_len (f := mx) hb.1 ha.1 (by omega : i ≤ n)
      rw [e, getD_eq _ 0 (by omega), List.set_getElem_self]
theorem sp_bound0 {n : Nat} {m y : List Int} (hm : Vec n m) (hy : Vec n y) : ∀ i : Nat, i ≤ (lk m y (List.replicate n 0) n).length → 0 ≤ sp (lk m y (List.replicate n 0) n) i ∧ sp (lk m y (List.replicate n 0) n) i ≤ 1023 * i
  | 0, _ => by simp [sp]
  | i + 1, h => by
    have := sp_bound0 hm hy i (by omega)
    obtain ⟨o, ho, h1, h2, h3⟩ := lk0_mem hy (getD_mem (lk m y (List.replicate n 0) n) z63 (by omega : i < _))
    have := hm.2 o
    have := hy.2 o
    simp only [sp]; rw [h3]; omega
theorem lks_both {n : Nat} {a b : List Int} (ha : Vec n a) (hb : Vec n b) : ∀ i, i ≤ n → lks a b (List.replicate n 0) i - lks b a (List.replicate n 0) i = sm a i - sm b i
  | 0, _ => by simp [lks, sm]
  | i + 1, h => by
    have := lks_both ha hb i (by omega)
    simp only [lks, sm]
    rw [top0 ha, top0 hb]
    repeat' split <;> omega
theorem VectorSpans : VectorSpans_Pure := by
  intro l0 l1 a2 w0 w1 w2
  obtain ⟨t1, e1, h1⟩ := low_some (a := a2) (b := 8) (by omega)
  obtain ⟨n, hn1, hn8, en⟩ := count8 h1
  obtain ⟨a, ha, hla⟩ := low_ev l0 n hn1 hn8
  obtain ⟨b, hb, hlb⟩ := low_ev l1 n hn1 hn8
  refine Ev.rounds ?_
  unfold grapevinelaw3_VectorSpans
  simp only [e1, en, Option.bind_some, Zero_some hn1 hn8]
  have hz := Vec.zero n
  have ha1 := ha.1; have hb1 := hb.1
  refine Ev.bind hla (Ev.bind hlb (Ev.bind (Lack_ev ha hb hz hn8) (Ev.bind (Lack_ev hb ha hz hn8) (Ev.pos (by simp; omega) ?_))))
  have hp := lk_len a b (List.replicate n 0) n
  have hq := lk_len b a (List.replicate n 0) n
  have ep : ∀ t ∈ lk a b (List.replicate n 0) n, _ := fun t h => lk0_mem hb h
  have eq : ∀ t ∈ lk b a (List.replicate n 0) n, _ := fun t h => lk0_mem ha h
  refine Ev.bind (b := Sum.inr (lks a b (List.replicate n 0) n, cross mx b a n)) ?_ ?_
  · rw [← sp_lk, ← gt_lk ha hb n (by omega)]
    have := Ev.count (F := fun k (s : Int × List Int) i => grapevinelaw3_VectorSpans_l0 t1 (lk a b (List.replicate n 0) n) (lk b a (List.replicate n 0) n) k s.1 i s.2) (r := Sum.inr (sp (lk a b (List.replicate n 0) n) (lk a b (List.replicate n 0) n).length, gt (lk a b (List.replicate n 0) n) b (lk a b (List.replicate n 0) n).length)) (fun i => (sp (lk a b (List.replicate n 0) n) i, gt (lk a b (List.replicate n 0) n) b i)) (lk a b (List.replicate n 0) n).length (fun i hi r H => by
      obtain ⟨o, ho, h2, h3, h4⟩ := ep _ (getD_mem (lk a b (List.replicate n 0) n) z63 hi)
      have hao := ha.2 o
      have hbo := hb.2 o
      have hlen := gt_len (lk a b (List.replicate n 0) n) b i
      have hsb := sp_bound0 ha hb i (by omega)
      have hgb := gt_bound ha hb hb i (by omega) o
      have hs : sp (lk a b (List.replicate n 0) n) (i + 1) = sp (lk a b (List.replicate n 0) n) i + (a.getD o 0 - b.getD o 0) := by simp only [sp]; rw [h4]
      have hg : gt (lk a b (List.replicate n 0) n) b (i + 1) = (gt (lk a b (List.replicate n 0) n) b i).set o ((gt (lk a b (List.replicate n 0) n) b i).getD o 0 + (a.getD o 0 - b.getD o 0)) := by rw [gt, h3, h4, Int.toNat_natCast]
      have inner : Ev (fun k => grapevinelaw3_VectorSpans_l1 (lk a b (List.replicate n 0) n) (lk b a (List.replicate n 0) n) (i : Int) k 0) (Sum.inr ()) :=
        Ev.count (F := fun k (_ : Unit) j => grapevinelaw3_VectorSpans_l1 (lk a b (List.replicate n 0) n) (lk b a (List.replicate n 0) n) (i : Int) k j) (fun _ => ()) (lk b a (List.replicate n 0) n).length (fun j hj r H => by
          obtain ⟨o', ho', h2', h3', h4'⟩ := eq _ (getD_mem (lk b a (List.replicate n 0) n) z63 hj)
          refine Ev.step (fun k => ?_) H
          rw [grapevinelaw3_VectorSpans_l1, if_pos (by omega), if_pos (by omega), if_pos (by omega), Int.toNat_natCast, Int.toNat_natCast, h3, h3', if_neg (fun e => by
            obtain rfl : o' = o := by omega
            omega), step64 j (by omega)]) (by
          refine Ev.step (g := fun _ => some (Sum.inr ())) (fun k => ?_) (Ev.now _)
          rw [grapevinelaw3_VectorSpans_l1, if_neg (by omega)])
      refine Ev.step (fun k => ?_) (Ev.bind (g := fun k (os : Sum Bool Unit) => match os with | Sum.inl r => some (Sum.inl r) | Sum.inr _ => grapevinelaw3_VectorSpans_l0 t1 (lk a b (List.replicate n 0) n) (lk b a (List.replicate n 0) n) k (sp (lk a b (List.replicate n 0) n) (i + 1)) ((i + 1 : Nat) : Int) (gt (lk a b (List.replicate n 0) n) b (i + 1))) inner H)
      rw [grapevinelaw3_VectorSpans_l0, if_pos (by omega), if_pos (by omega), Int.toNat_natCast, h3, h4, if_neg (by omega), if_pos (by omega), decide_eq_false (by rw [en]; omega)]
      simp only [Option.bind_some, Int.toNat_natCast]
      rw [if_neg (by simp), if_pos (by omega), if_pos (by omega), if_pos (by rw [hlen]; omega), if_pos (by omega), if_pos (by rw [hlen]; omega), if_pos (by omega), step64 i (by omega), hs, hg, i64w (x := sp _ _ + _) (by omega), i64w (x := List.getD _ _ _ + _) (by omega)]
      exact congrArg _ (funext fun os => by cases os <;> rfl)) (by
      refine Ev.step (g := fun _ => some _) (fun k => ?_) (Ev.now _)
      rw [grapevinelaw3_VectorSpans_l0, if_neg (by omega)])
    exact this
  have hsp := sp_bound0 ha hb (lk a b (List.replicate n 0) n).length (Nat.le_refl _)
  rw [sp_lk] at hsp
  have hcx : cross mx b a n = zip mx b a := cross_all hb.1 ha.1
  refine Ev.bind (b := lks a b (List.replicate n 0) n - lks b a (List.replicate n 0) n) ?_ ?_
  · rw [← sp_lk b a]
    have := Ev.count (F := fun k s j => grapevinelaw3_VectorSpans_l2 (lk b a (List.replicate n 0) n) k s j) (r := lks a b (List.replicate n 0) n - sp (lk b a (List.replicate n 0) n) (lk b a (List.replicate n 0) n).length) (fun j => lks a b (List.replicate n 0) n - sp (lk b a (List.replicate n 0) n) j) (lk b a (List.replicate n 0) n).length (fun j hj r H => by
      obtain ⟨o, ho, h2, h3, h4⟩ := eq _ (getD_mem (lk b a (List.replicate n 0) n) z63 hj)
      have hao := ha.2 o
      have hbo := hb.2 o
      have hsb := sp_bound0 hb ha j (by omega)
      have hs : sp (lk b a (List.replicate n 0) n) (j + 1) = sp (lk b a (List.replicate n 0) n) j + (b.getD o 0 - a.getD o 0) := by simp only [sp]; rw [h4]
      refine Ev.step (fun k => ?_) H
      rw [grapevinelaw3_VectorSpans_l2, if_pos (by omega), if_pos (by omega), Int.toNat_natCast, h4, step64 j (by omega), hs, i64w (by omega), Int.sub_sub]) (by
      refine Ev.step (g := fun _ => some _) (fun k => ?_) (Ev.now _)
      rw [grapevinelaw3_VectorSpans_l2, if_neg (by omega)])
    simpa [sp] using this
  have hsa := sm_bound ha n
  have hsb := sm_bound hb n
  refine Ev.bind (b := true) ?_ (Ev.now _)
  refine Ev.bind (Sum_ev ha hn8) (Ev.bind (Sum_ev hb hn8) (Ev.pos ?_ ?_))
  · rw [i64w (by omega)]; exact lks_both ha hb n (Nat.le_refl _)
  refine Ev.bind (join2 ha hb hn8) (Ev.bind (same hn8 (by show Vec n (cross mx b a n); rw [hcx]; exact hb.join ha) (ha.join hb) fun i hi => ?_) (Ev.pos rfl ?_))
  · show (cross mx b a n).getD i 0 = _
    rw [hcx, getJ hb ha hi, getJ ha hb hi]; unfold mx; repeat' split <;> omega
  refine Ev.bind (Below_ev ha.1 hb.1 hn8) (Ev.pos ?_ (Ev.bind awake_ev (Ev.now _)))
  have : lk a b (List.replicate n 0) n = [] ↔ Le n a b := by
    rw [lk_nil]
    exact ⟨fun h o ho => by have := h o ho; rwa [top0 hb] at this, fun h o ho => by rw [top0 hb]; exact h o ho⟩
  by_cases e : Le n a b
  · rw [this.2 e, decide_eq_true e]; rfl
  · have hne : lk a b (List.replicate n 0) n ≠ [] := fun h => e (this.1 h)
    have : (lk a b (List.replicate n 0) n).length ≠ 0 := fun h => hne (List.length_eq_zero_iff.1 h)
    rw [decide_eq_false e]; simp; exact hne
end Go.Proofs.Ytmphcmgbognmnaa.Pure
