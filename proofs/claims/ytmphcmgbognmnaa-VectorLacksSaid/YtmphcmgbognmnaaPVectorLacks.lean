/- The plain law of VectorLacks. -/
import Derived.Test.YtmphcmgbognmnaaLVectorLacks
import Derived.Test.YtmphcmgbognmnaaPVec
namespace Go.Proofs.Ytmphcmgbognmnaa.Pure
open Go Go.Gg Go.Gp Gf
set_option linter.unusedVariables false
theorem sp_bound {n : Nat} {m y f : List Int} (hm : Vec n m) (hy : Vec n y) (hf : Vec n f) : ∀ i : Nat, i ≤ (lk m y f n).length → 0 ≤ sp (lk m y f n) i ∧ sp (lk m y f n) i ≤ 1023 * i
  | 0, _ => by simp [sp]
  | i + 1, h => by
    have := sp_bound hm hy hf i (by omega)
    obtain ⟨o, ho, h1, h2⟩ := lk_mem n (getD_mem (lk m y f n) z63 (by omega : i < _))
    have := hm.2 o
    have := top_range hy hf o
    simp only [sp]; rw [h2]; simp only; omega
theorem lks_sm {n : Nat} {m y f : List Int} (hm : Vec n m) (hy : Vec n y) (hf : Vec n f) : ∀ i, i ≤ n → lks m y f i = sm (zip mx (zip mx m y) f) i - sm (zip mx y f) i
  | 0, _ => by simp [lks, sm]
  | i + 1, h => by
    have := lks_sm hm hy hf i (by omega)
    simp only [lks, sm]
    rw [getJ (hm.join hy) hf (by omega), getJ hm hy (by omega), getJ hy hf (by omega), this]
    unfold mx top; repeat' split <;> omega
theorem VectorLacks : VectorLacks_Pure := by
  intro l0 l1 l2 a3 w0 w1 w2 w3
  obtain ⟨t1, e1, h1⟩ := low_some (a := a3) (b := 8) (by omega)
  obtain ⟨n, hn1, hn8, en⟩ := count8 h1
  obtain ⟨m, hm, hlm⟩ := low_ev l0 n hn1 hn8
  obtain ⟨y, hy, hly⟩ := low_ev l1 n hn1 hn8
  obtain ⟨f, hf, hlf⟩ := low_ev l2 n hn1 hn8
  refine Ev.rounds ?_
  unfold grapevinelaw3_VectorLacks
  simp only [e1, en, Option.bind_some]
  have hmy := hm.join hy
  have hall := hmy.join hf
  have hyf := hy.join hf
  have hl := lk_len m y f n
  have hm1 := hm.1; have hy1 := hy.1; have hf1 := hf.1
  refine Ev.bind hlm (Ev.bind hly (Ev.bind hlf (Ev.bind (Lack_ev hm hy hf hn8) (Ev.bind (b := Sum.inr (lks m y f n)) ?_ ?_))))
  · rw [← sp_lk]
    exact Ev.count (F := fun k s i => grapevinelaw3_VectorLacks_l0 t1 m y f (lk m y f n) k s i) (fun i => sp (lk m y f n) i) (lk m y f n).length (fun i hi r H => by
      refine Ev.step (fun k => ?_) H
      obtain ⟨o, ho, h2, h3⟩ := lk_mem n (getD_mem (lk m y f n) z63 hi)
      have hmo := hm.2 o
      have ht := top_range hy hf o
      have hb := sp_bound hm hy hf i (by omega)
      have hrise : 0 < i → ∃ o' : Nat, (lk m y f n).getD (i - 1) z63 = ⟨o', top y f o' + 1, m.getD o' 0 - top y f o'⟩ ∧ o' < o := by
        intro h0
        obtain ⟨o', ho', h2', h3'⟩ := lk_mem n (getD_mem (lk m y f n) z63 (by omega : i - 1 < _))
        have := List.pairwise_iff_getElem.1 (lk_rise m y f n) (i - 1) i (by omega) hi (by omega)
        rw [← getD_eq _ z63, ← getD_eq _ z63, h3, h3'] at this
        exact ⟨o', h3', by simp only at this; omega⟩
      rw [grapevinelaw3_VectorLacks_l0, if_pos (by omega), if_pos (by omega), en, Int.toNat_natCast, h3]
      simp only [Int.toNat_natCast]
      have etop : (if f.getD o 0 > y.getD o 0 then f.getD o 0 else y.getD o 0) = top y f o := rfl
      have e2 : IntKind.i64.wrap (top y f o + 1 + (m.getD o 0 - top y f o)) = m.getD o 0 + 1 := by rw [i64w (by omega)]; omega
      have e3 : IntKind.i64.wrap (m.getD o 0 + 1 - 1) = m.getD o 0 := by rw [i64w (by omega)]; omega
      have e4 : IntKind.i64.wrap (top y f o + 1) = top y f o + 1 := i64w (by omega)
      have hs : sp (lk m y f n) (i + 1) = sp (lk m y f n) i + (m.getD o 0 - top y f o) := by simp only [sp]; rw [h3]
      rw [etop, e2, e3, e4, if_neg (by omega), if_neg (by omega)]
      have tail : (if 0 ≤ (i : Int) ∧ (i : Int) < ((lk m y f n).length : Int) then (if m.getD o 0 - top y f o < 1 then some true else (if 0 ≤ (i : Int) ∧ (i : Int) < ((lk m y f n).length : Int) then (if 0 ≤ (o : Int) ∧ (o : Int) < (y.length : Int) then (if 0 ≤ (o : Int) ∧ (o : Int) < (f.length : Int) then (if ¬ top y f o + 1 = top y f o + 1 then some true else (if 0 ≤ (i : Int) ∧ (i : Int) < ((lk m y f n).length : Int) then (if 0 ≤ (i : Int) ∧ (i : Int) < ((lk m y f n).length : Int) then (if 0 ≤ (o : Int) ∧ (o : Int) < (m.length : Int) then some (m.getD o 0 != m.getD o 0) else none) else none) else none)) else none) else none) else none)) else none) = some false := by
        rw [if_pos (by omega), if_neg (by omega), if_pos (by omega), if_pos (by omega), if_pos (by omega), if_neg (by simp), if_pos (by omega), if_pos (by omega), if_pos (by omega)]; simp
      rw [tail]
      have hcond : (if (i : Int) > 0 then (if 0 ≤ IntKind.i64.wrap ((i : Int) - 1) ∧ IntKind.i64.wrap ((i : Int) - 1) < ((lk m y f n).length : Int) then (if (o : Int) ≤ ((lk m y f n).getD (IntKind.i64.wrap ((i : Int) - 1)).toNat z63).f0 then some true else some false) else none) else some false) = some false := by
        by_cases h0 : 0 < i
        · obtain ⟨o', h4, h5⟩ := hrise h0
          have ew : IntKind.i64.wrap ((i : Int) - 1) = ((i - 1 : Nat) : Int) := by rw [i64w (by omega)]; omega
          rw [if_pos (by omega), ew, if_pos (by omega), Int.toNat_natCast, h4, if_neg (by simp only; omega)]
        · rw [if_neg (by omega)]
      rw [hcond]
      simp only [Option.bind_some]
      rw [if_neg (by simp), if_pos (by omega), step64 i (by omega), i64w (by omega), hs]) (by
      refine Ev.step (g := fun _ => some (Sum.inr (sp (lk m y f n) (lk m y f n).length))) (fun k => ?_) (Ev.now _)
      rw [grapevinelaw3_VectorLacks_l0, if_neg (by omega)])
  refine Ev.bind (join3 hm hy hf hn8) (Ev.bind (b := true) ?_ (Ev.now _))
  refine Ev.bind (Sum_ev hall hn8) (Ev.bind (join2 hy hf hn8) (Ev.bind (Sum_ev hyf hn8) (Ev.pos ?_ ?_)))
  · have := sm_bound hall n
    have := sm_bound hyf n
    rw [i64w (by omega)]; exact lks_sm hm hy hf n (by omega)
  have hnil : lk m (zip mx (zip mx m y) f) f n = [] := (lk_nil n).2 fun o ho => by
    unfold top; rw [getJ hmy hf ho, getJ hm hy ho]; unfold mx; repeat' split <;> omega
  refine Ev.bind ((Lack_ev hm hall hf hn8).is hnil) (Ev.pos rfl (Ev.bind awake_ev (Ev.now _)))
end Go.Proofs.Ytmphcmgbognmnaa.Pure
