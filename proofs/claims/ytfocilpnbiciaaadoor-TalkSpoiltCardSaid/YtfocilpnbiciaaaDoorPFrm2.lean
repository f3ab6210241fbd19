/- What the document says of digests and frames (out of the texts of an elder seat). -/
import Derived.Test.YtfocilpnbiciaaaDoorF0
import Derived.Test.YtfocilpnbiciaaaDoorF1
import Derived.Test.YtfocilpnbiciaaaDoorF5
import Derived.Test.YtfocilpnbiciaaaDoorPFrm
namespace Go.Proofs.YtfocilpnbiciaaaDoor.Pure
open Go Go.Gg Go.Gp Gf
set_option linter.unusedVariables false
set_option linter.unusedSimpArgs false
theorem grapevineref5_more_ev (ys : List Int) (hy : Short ys) (h : Int) : Ev (fun k => grapevineref5_more k h ys) (fnv h ys) := by
  have hl := short_lt hy
  unfold grapevineref5_more
  refine Ev.bind (b := fnv h ys) ?_ (Ev.now _)
  have key := Ev.count (F := fun k s j => grapevineref5_more_l0 ys k s j) (r := fnv h ys) (fun j => fnv h (ys.take j)) ys.length ?_ ?_
  · simpa [fnv] using key
  · intro j hj r H
    refine Ev.step (fun k => by rw [grapevineref5_more_l0]) ?_
    refine Ev.pos (by omega) (Ev.pos (by omega) ?_)
    rw [i64w (by omega)]
    simp only [take_getD ys 0 hj, fnv_app] at H
    exact H
  · refine Ev.step (fun k => by rw [grapevineref5_more_l0]) ?_
    refine Ev.neg (by omega) ?_
    simpa using Ev.now _
theorem grapevineref5_Of_ev (xs : List (List Int)) (hx : Short xs) (hy : ∀ y ∈ xs, Short y) : Ev (fun k => grapevineref5_Of k xs) (fnv fnv0 xs.flatten) := by
  have hl := short_lt hx
  unfold grapevineref5_Of
  refine Ev.bind (b := fnv fnv0 xs.flatten) ?_ (Ev.now _)
  have key := Ev.count (F := fun k s j => grapevineref5_Of_l0 xs k s j) (r := fnv fnv0 xs.flatten) (fun j => fnv fnv0 (xs.take j).flatten) xs.length ?_ ?_
  · exact key
  · intro j hj r H
    refine Ev.step (fun k => by rw [grapevineref5_Of_l0]) ?_
    refine Ev.pos (by omega) (Ev.pos (by omega) ?_)
    refine Ev.bind (grapevineref5_more_ev _ (hy _ (getD_mem xs [] (by omega))) _) ?_
    rw [i64w (by omega)]
    simp only [take_getD xs [] hj, List.flatten_append, fnv_app] at H
    simpa using H
  · refine Ev.step (fun k => by rw [grapevineref5_Of_l0]) ?_
    refine Ev.neg (by omega) ?_
    simpa using Ev.now _
theorem rseal_l0_ev (d : Int) : Ev (fun k => grapevineref6_seal_l0 d k [] 7) (be8 d) := by
  have one : ∀ (c : List Int) (p q s : Int) (r : List Int) (_ : 0 ≤ p) (_ : p ≤ 7) (_ : q = p - 1) (_ : s = 8 * p) (_ : c.length < 1073741824), Ev (fun k => grapevineref6_seal_l0 d k (c ++ [IntKind.u8.wrap (shrK .u64 d s)]) q) r → Ev (fun k => grapevineref6_seal_l0 d k c p) r := by
    intro c p q s r h0 h1 hq hs hc H
    refine Ev.step (fun k => by rw [grapevineref6_seal_l0, i64w (x := 8 * p) (by omega), i64w (x := p - 1) (by omega), ← hs]) ?_
    refine Ev.pos h0 (Ev.pos (by omega) (Ev.pos (by simp; omega) ?_))
    rw [← hq]
    exact H
  refine one [] 7 6 56 _ (by omega) (by omega) (by omega) (by omega) (by simp) ?_
  refine one _ 6 5 48 _ (by omega) (by omega) (by omega) (by omega) (by simp) ?_
  refine one _ 5 4 40 _ (by omega) (by omega) (by omega) (by omega) (by simp) ?_
  refine one _ 4 3 32 _ (by omega) (by omega) (by omega) (by omega) (by simp) ?_
  refine one _ 3 2 24 _ (by omega) (by omega) (by omega) (by omega) (by simp) ?_
  refine one _ 2 1 16 _ (by omega) (by omega) (by omega) (by omega) (by simp) ?_
  refine one _ 1 0 8 _ (by omega) (by omega) (by omega) (by omega) (by simp) ?_
  refine one _ 0 (-1) 0 _ (by omega) (by omega) (by omega) (by omega) (by simp) ?_
  refine Ev.step (fun k => by rw [grapevineref6_seal_l0]) ?_
  refine Ev.neg (by omega) ?_
  simpa [be8] using Ev.now _
theorem rseal_ev (l : List Int) (hl : Short l) : Ev (fun k => grapevineref6_seal k l) (be8 (fnv fnv0 l)) := by
  unfold grapevineref6_seal grapevineref5_One
  refine Ev.bind (Ev.bind (grapevineref5_Of_ev [l] (by simp [Short, maxLen]) (by simpa using hl)) (Ev.now _)) ?_
  exact Ev.bind (rseal_l0_ev _) ((Ev.now _).is (by simp))
theorem getD_dropF {l : List Int} {i j : Nat} : (l.drop i).getD j 0 = l.getD (i + j) 0 := by
  simp [List.getD_eq_getElem?_getD, List.getElem?_drop]
theorem GetF_ev (l : List Int) (p : Int) (hb : Bytes l) (hl : l.length ≤ 4611686018427387904) (hp : 0 ≤ p ∧ p < 4611686018427387910) :
    Ev (fun k => grapevineref4_Get k l p 2) (if p + 2 ≤ (l.length : Int) then (l.getD p.toNat 0 * 256 + l.getD (p.toNat + 1) 0, true) else (0, false)) := by
  unfold grapevineref4_Get
  refine Ev.bind (b := decide (¬ p + 2 ≤ (l.length : Int))) ?_ ?_
  · refine Ev.neg (by omega) (Ev.ite (fun h => (Ev.now _).is (decide_eq_true (p := ¬ _) (by omega)).symm) (fun h => ?_))
    rw [i64w (by omega)]
    refine (Ev.now _).is ?_
    rw [decide_eq_decide]; omega
  · refine Ev.ite (fun h => ?_) (fun h => ?_)
    · rw [if_neg (of_decide_eq_true h)]; exact Ev.now _
    · have h : p + 2 ≤ (l.length : Int) := Classical.byContradiction fun h' => h (decide_eq_true h')
      rw [if_pos h]
      have g0 := hb.get p.toNat
      have g1 := hb.get (p.toNat + 1)
      refine Ev.bind (b := l.getD p.toNat 0 * 256 + l.getD (p.toNat + 1) 0) ?_ (Ev.now _)
      refine Ev.step (fun k => by rw [grapevineref4_Get_l0]) ?_
      rw [i64w (x := p + 0) (by omega), i64w (x := 0 * 256) (by omega), i64w (x := (0 : Int) + 1) (by omega), show (p + 0).toNat = p.toNat by omega, i64w (x := l.getD p.toNat 0) (by omega), i64w (x := 0 * 256 + l.getD p.toNat 0) (by omega), show (0 : Int) + 1 = 1 by omega]
      refine Ev.pos (by omega) (Ev.pos (by omega) ?_)
      refine Ev.step (fun k => by rw [grapevineref4_Get_l0]) ?_
      rw [i64w (x := p + 1) (by omega), i64w (x := (0 * 256 + l.getD p.toNat 0) * 256) (by omega), i64w (x := (1 : Int) + 1) (by omega), show (p + 1).toNat = p.toNat + 1 by omega, i64w (x := l.getD (p.toNat + 1) 0) (by omega), i64w (by omega), show (1 : Int) + 1 = 2 by omega]
      refine Ev.pos (by omega) (Ev.pos (by omega) ?_)
      refine Ev.step (fun k => by rw [grapevineref4_Get_l0]) ?_
      refine Ev.neg (by omega) ((Ev.now _).is (by omega))
theorem rNext_ev (l : List Int) (at_ : Int) (hb : Bytes l) (hl : l.length ≤ 4611686018427387904) (ha : -9223372036854775808 ≤ at_ ∧ at_ < 9223372036854775808) : Ev (fun k => grapevineref6_Next k l at_) (nextS l at_) := by
  unfold grapevineref6_Next nextS
  refine Ev.bind (b := decide (0 ≤ at_ ∧ at_ ≤ (l.length : Int))) ?_ ?_
  · refine Ev.ite (fun h => (Ev.now _).is ?_) (fun h => (Ev.now _).is ?_)
    · rw [decide_eq_decide]; omega
    · exact (decide_eq_false (by omega)).symm
  · refine Ev.ite (fun h => ?_) (fun h => ?_)
    · have h := of_decide_eq_true h
      rw [if_pos h]
      rw [i64w (x := at_ + 2) (by omega), i64w (x := at_ + 1) (by omega)]
      refine Ev.bind (GetF_ev l (at_ + 2) hb hl (by omega)) ?_
      generalize hx : l.drop at_.toNat = x
      have hxl : (x.length : Int) = (l.length : Int) - at_ := by rw [← hx, List.length_drop]; omega
      have hbx : Bytes x := hx ▸ hb.drop _
      have g2 := hbx.get 2
      have g3 := hbx.get 3
      have x0 : l.getD at_.toNat 0 = x.getD 0 0 := by rw [← hx, getD_dropF]; rfl
      have x1 : l.getD (at_ + 1).toNat 0 = x.getD 1 0 := by rw [← hx, getD_dropF]; congr 1; omega
      have x2 : l.getD (at_ + 2).toNat 0 = x.getD 2 0 := by rw [← hx, getD_dropF]; congr 1; omega
      have x3 : l.getD ((at_ + 2).toNat + 1) 0 = x.getD 3 0 := by rw [← hx, getD_dropF]; congr 1; omega
      rw [x2, x3]
      unfold nextAt
      generalize hn : (x.getD 2 0 * 256 + x.getD 3 0).toNat = n
      have hn' : x.getD 2 0 * 256 + x.getD 3 0 = (n : Int) := by omega
      rw [hn']
      refine Ev.bind (b := decide (¬ (12 ≤ x.length ∧ x.getD 0 0 = 71 ∧ ¬ x.getD 1 0 = 0 ∧ n + 12 ≤ x.length))) ?_ ?_
      · by_cases h4 : at_ + 2 + 2 ≤ (l.length : Int)
        · rw [if_pos h4]
          refine Ev.neg (by simp) (Ev.pos (by omega) ?_)
          rw [x0, x1]
          refine Ev.ite (fun h2 => (Ev.now _).is (decide_eq_true (p := ¬ _) (fun h => h2 h.2.1)).symm) (fun h2 => ?_)
          refine Ev.pos (by omega) (Ev.ite (fun h3 => (Ev.now _).is (decide_eq_true (p := ¬ _) (fun h => h.2.2.1 h3)).symm) (fun h3 => ?_))
          rw [i64w (x := (n : Int) + 12) (by omega), i64w (x := (l.length : Int) - at_) (by omega)]
          refine (Ev.now _).is ?_
          have h2 : x.getD 0 0 = 71 := by omega
          rw [decide_eq_decide]
          constructor
          · intro h5 h6; omega
          · intro h5; exact Classical.byContradiction fun h6 => h5 ⟨by omega, h2, h3, by omega⟩
        · rw [if_neg h4]
          exact Ev.pos rfl ((Ev.now _).is (decide_eq_true (p := ¬ _) (by omega)).symm)
      · refine Ev.ite (fun h2 => ?_) (fun h2 => ?_)
        · have h2 := of_decide_eq_true h2
          refine (Ev.now _).is ?_
          by_cases h5 : x.length < 12
          · rw [if_pos h5]
          · rw [if_neg h5, if_neg (fun h6 => h2 ⟨by omega, h6⟩)]
        · have h2 : 12 ≤ x.length ∧ x.getD 0 0 = 71 ∧ ¬ x.getD 1 0 = 0 ∧ n + 12 ≤ x.length := Classical.byContradiction fun h => h2 (decide_eq_true h)
          rw [if_neg (show ¬ x.length < 12 by omega), if_pos h2.2, if_pos (show at_ + 2 + 2 ≤ (l.length : Int) by omega)]
          refine Ev.name fun e he => ?_
          rw [i64w (x := at_ + 4) (by omega), i64w (by omega)] at he
          rw [i64w (x := e + 8) (by omega)]
          refine Ev.pos (by omega) (Ev.pos (by omega) ?_)
          have p1 : (l.take e.toNat).drop at_.toNat = x.take (n + 4) := by rw [List.drop_take, hx]; congr 1; omega
          have p2 : (l.take (e + 8).toNat).drop e.toNat = (x.drop (n + 4)).take 8 := by
            rw [List.drop_take, ← hx, List.drop_drop]; congr 1
            · omega
            · congr 1; omega
          rw [p1, p2]
          refine Ev.bind (rseal_ev _ (by simp [Short, maxLen]; omega)) ?_
          rw [strOfNums_inj (be8_bytes _) ((hbx.drop _).take _)]
          by_cases h3 : be8 (fnv fnv0 (x.take (n + 4))) = (x.drop (n + 4)).take 8
          · rw [if_pos h3]
            refine Ev.neg (by simp [h3]) (Ev.pos (by omega) ?_)
            rw [i64w (x := at_ + 4) (by omega)]
            have p3 : (l.take e.toNat).drop (at_ + 4).toNat = (x.take (n + 4)).drop 4 := by
              rw [← p1, List.drop_drop]; congr 1; omega
            refine Ev.pos (by omega) ?_
            rw [p3]
            refine Ev.pos (by simp; omega) ?_
            have g1 := hbx.get 1
            refine (Ev.now _).is ?_
            rw [x1, i64w (x := x.getD 1 0) (by omega)]
            simp only [List.nil_append, Prod.mk.injEq, true_and, and_true]
            omega
          · rw [if_neg h3]
            exact Ev.pos (by simp [h3]) (Ev.now _)
    · have h : ¬ (0 ≤ at_ ∧ at_ ≤ (l.length : Int)) := fun h' => h (decide_eq_true h')
      rw [if_neg h]; exact Ev.now _
end Go.Proofs.YtfocilpnbiciaaaDoor.Pure
