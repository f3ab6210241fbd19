/- What the document finds, and how many frames there are. -/
import Derived.Test.YtanogihdhnhpaaaPFrame
namespace Go.Proofs.Ytanogihdhnhpaaa.Pure
open Go Go.Gg Go.Gp Gf
set_option linter.unusedVariables false

theorem getD_drop {l : List Int} {i j : Nat} : (l.drop i).getD j 0 = l.getD (i + j) 0 := by
  simp [List.getD_eq_getElem?_getD, List.getElem?_drop]

theorem Get_ev (l : List Int) (p : Int) (hb : Bytes l) (hl : l.length ≤ 4611686018427387904) (hp : 0 ≤ p ∧ p < 4611686018427387910) :
    Ev (fun k => grapevineref4_Get k l p 2) (if p + 2 ≤ (l.length : Int) then (l.getD p.toNat 0 * 256 + l.getD (p.toNat + 1) 0, true) else (0, false)) := by
  unfold grapevineref4_Get
  refine Ev.bind (b := decide (¬ p + 2 ≤ (l.length : Int))) ?_ ?_
  · refine Ev.neg (by omega) (Ev.ite (fun h => (Ev.now _).is (decide_eq_true (p := ¬ _) (by omega)).symm) (fun h => ?_))
    rw [i64w (by omega)]
    refine (Ev.now _).is ?_
    rw [decide_eq_decide]; omega
  · refine Ev.ite (fun h => ?_) (fun h => ?_)
    · rw [if_neg (of_decide_eq_true h)]; exact Ev.now _
    · have h : p + 2 ≤ (l.length : Int) := Classical.byContradiction fun h' => h (decide_eq_true h')
      rw [if_pos h]
      have g0 := hb.get p.toNat
      have g1 := hb.get (p.toNat + 1)
      refine Ev.bind (b := l.getD p.toNat 0 * 256 + l.getD (p.toNat + 1) 0) ?_ (Ev.now _)
      refine Ev.step (fun k => by rw [grapevineref4_Get_l0]) ?_
      rw [i64w (x := p + 0) (by omega), i64w (x := 0 * 256) (by omega), i64w (x := (0 : Int) + 1) (by omega), show (p + 0).toNat = p.toNat by omega, i64w (x := l.getD p.toNat 0) (by omega), i64w (x := 0 * 256 + l.getD p.toNat 0) (by omega), show (0 : Int) + 1 = 1 by omega]
      refine Ev.pos (by omega) (Ev.pos (by omega) ?_)
      refine Ev.step (fun k => by rw [grapevineref4_Get_l0]) ?_
      rw [i64w (x := p + 1) (by omega), i64w (x := (0 * 256 + l.getD p.toNat 0) * 256) (by omega), i64w (x := (1 : Int) + 1) (by omega), show (p + 1).toNat = p.toNat + 1 by omega, i64w (x := l.getD (p.toNat + 1) 0) (by omega), i64w (by omega), show (1 : Int) + 1 = 2 by omega]
      refine Ev.pos (by omega) (Ev.pos (by omega) ?_)
      refine Ev.step (fun k => by rw [grapevineref4_Get_l0]) ?_
      refine Ev.neg (by omega) ((Ev.now _).is (by omega))

theorem rNext_ev (l : List Int) (at_ : Int) (hb : Bytes l) (hl : l.length ≤ 4611686018427387904) (ha : -9223372036854775808 ≤ at_ ∧ at_ < 9223372036854775808) : Ev (fun k => grapevineref6_Next k l at_) (nextS l at_) := by
  unfold grapevineref6_Next nextS
  refine Ev.bind (b := decide (0 ≤ at_ ∧ at_ ≤ (l.length : Int))) ?_ ?_
  · refine Ev.ite (fun h => (Ev.now _).is ?_) (fun h => (Ev.now _).is ?_)
    · rw [decide_eq_decide]; omega
    · exact (decide_eq_false (by omega)).symm
  · refine Ev.ite (fun h => ?_) (fun h => ?_)
    · have h := of_decide_eq_true h
      rw [if_pos h]
      rw [i64w (x := at_ + 2) (by omega), i64w (x := at_ + 1) (by omega)]
      refine Ev.bind (Get_ev l (at_ + 2) hb hl (by omega)) ?_
      generalize hx : l.drop at_.toNat = x
      have hxl : (x.length : Int) = (l.length : Int) - at_ := by rw [← hx, List.length_drop]; omega
      have hbx : Bytes x := hx ▸ hb.drop _
      have g2 := hbx.get 2
      have g3 := hbx.get 3
      have x0 : l.getD at_.toNat 0 = x.getD 0 0 := by rw [← hx, getD_drop]; rfl
      have x1 : l.getD (at_ + 1).toNat 0 = x.getD 1 0 := by rw [← hx, getD_drop]; congr 1; omega
      have x2 : l.getD (at_ + 2).toNat 0 = x.getD 2 0 := by rw [← hx, getD_drop]; congr 1; omega
      have x3 : l.getD ((at_ + 2).toNat + 1) 0 = x.getD 3 0 := by rw [← hx, getD_drop]; congr 1; omega
      rw [x2, x3]
      unfold nextAt
      generalize hn : (x.getD 2 0 * 256 + x.getD 3 0).toNat = n
      have hn' : x.getD 2 0 * 256 + x.getD 3 0 = (n : Int) := by omega
      rw [hn']
      refine Ev.bind (b := decide (¬ (12 ≤ x.length ∧ x.getD 0 0 = 71 ∧ ¬ x.getD 1 0 = 0 ∧ n + 12 ≤ x.length))) ?_ ?_
      · by_cases h4 : at_ + 2 + 2 ≤ (l.length : Int)
        · rw [if_pos h4]
          refine Ev.neg (by simp) (Ev.pos (by omega) ?_)
          rw [x0, x1]
          refine Ev.ite (fun h2 => (Ev.now _).is (decide_eq_true (p := ¬ _) (fun h => h2 h.2.1)).symm) (fun h2 => ?_)
          refine Ev.pos (by omega) (Ev.ite (fun h3 => (Ev.now _).is (decide_eq_true (p := ¬ _) (fun h => h.2.2.1 h3)).symm) (fun h3 => ?_))
          rw [i64w (x := (n : Int) + 12) (by omega), i64w (x := (l.length : Int) - at_) (by omega)]
          refine (Ev.now _).is ?_
          have h2 : x.getD 0 0 = 71 := by omega
          rw [decide_eq_decide]
          constructor
          · intro h5 h6; omega
          · intro h5; exact Classical.byContradiction fun h6 => h5 ⟨by omega, h2, h3, by omega⟩
        · rw [if_neg h4]
          exact Ev.pos rfl ((Ev.now _).is (decide_eq_true (p := ¬ _) (by omega)).symm)
      · refine Ev.ite (fun h2 => ?_) (fun h2 => ?_)
        · have h2 := of_decide_eq_true h2
          refine (Ev.now _).is ?_
          by_cases h5 : x.length < 12
          · rw [if_pos h5]
          · rw [if_neg h5, if_neg (fun h6 => h2 ⟨by omega, h6⟩)]
        · have h2 : 12 ≤ x.length ∧ x.getD 0 0 = 71 ∧ ¬ x.getD 1 0 = 0 ∧ n + 12 ≤ x.length := Classical.byContradiction fun h => h2 (decide_eq_true h)
          rw [if_neg (show ¬ x.length < 12 by omega), if_pos h2.2, if_pos (show at_ + 2 + 2 ≤ (l.length : Int) by omega)]
          refine Ev.name fun e he => ?_
          rw [i64w (x := at_ + 4) (by omega), i64w (by omega)] at he
          rw [i64w (x := e + 8) (by omega)]
          refine Ev.pos (by omega) (Ev.pos (by omega) ?_)
          have p1 : (l.take e.toNat).drop at_.toNat = x.take (n + 4) := by rw [List.drop_take, hx]; congr 1; omega
          have p2 : (l.take (e + 8).toNat).drop e.toNat = (x.drop (n + 4)).take 8 := by
            rw [List.drop_take, ← hx, List.drop_drop]; congr 1
            · omega
            · congr 1; omega
          rw [p1, p2]
          refine Ev.bind (rseal_ev _ (by simp [Short, maxLen]; omega)) ?_
          rw [strOfNums_inj (be8_bytes _) ((hbx.drop _).take _)]
          by_cases h3 : be8 (fnv fnv0 (x.take (n + 4))) = (x.drop (n + 4)).take 8
          · rw [if_pos h3]
            refine Ev.neg (by simp [h3]) (Ev.pos (by omega) ?_)
            rw [i64w (x := at_ + 4) (by omega)]
            have p3 : (l.take e.toNat).drop (at_ + 4).toNat = (x.take (n + 4)).drop 4 := by
              rw [← p1, List.drop_drop]; congr 1; omega
            refine Ev.pos (by omega) ?_
            rw [p3]
            refine Ev.pos (by simp; omega) ?_
            have g1 := hbx.get 1
            refine (Ev.now _).is ?_
            rw [x1, i64w (x := x.getD 1 0) (by omega)]
            simp only [List.nil_append, Prod.mk.injEq, true_and, and_true]
            omega
          · rw [if_neg h3]
            exact Ev.pos (by simp [h3]) (Ev.now _)
    · have h : ¬ (0 ≤ at_ ∧ at_ ≤ (l.length : Int)) := fun h' => h (decide_eq_true h')
      rw [if_neg h]; exact Ev.now _

/-! ## How many -/
def cnt (l : List Int) : Nat → Int → Int → Int × Int
  | 0, n, p => (n, p)
  | d + 1, n, p => if (nextS l p).2.2.2 = true then cnt l d (n + 1) (nextS l p).2.2.1 else (n, p)
def countS (l : List Int) : Int × Int := cnt l (l.length + 1) 0 0

theorem nextS_ok {l : List Int} {p : Int} (h : (nextS l p).2.2.2 = true) : 0 ≤ p ∧ p + 12 ≤ (nextS l p).2.2.1 ∧ (nextS l p).2.2.1 ≤ (l.length : Int) := by
  unfold nextS at h ⊢
  split at h
  · rename_i h1
    rw [if_pos h1]
    split at h
    · rename_i kind body n hn
      unfold nextAt at hn
      split at hn
      · cases hn
      · split at hn
        · rename_i h2 h3
          split at hn
          · cases hn
            have : (l.drop p.toNat).length = l.length - p.toNat := List.length_drop
            simp only
            omega
          · cases hn
        · cases hn
    · cases h
  · cases h

theorem frame_Count_ev (l : List Int) (hb : Bytes l) (hl : l.length ≤ 4611686018427387904) : Ev (fun k => frame_Count k l) (countS l) := by
  unfold frame_Count countS
  have key : ∀ (d : Nat) (n p : Int), 0 ≤ p → p ≤ (l.length : Int) → 0 ≤ n → n ≤ p → (l.length : Int) < p + d → Ev (fun k => frame_Count_l0 l k n p) (cnt l d n p) := by
    intro d
    induction d with
    | zero => intro n p h0 h1 _ _ h2; omega
    | succ d ih =>
      intro n p h0 h1 h3 h4 h2
      refine Ev.step (fun k => by rw [frame_Count_l0]) ?_
      refine Ev.bind (frame_Next_ev l p hb hl (by omega)) ?_
      unfold cnt
      by_cases h : (nextS l p).2.2.2 = true
      · rw [if_pos h]
        obtain ⟨_, a, b⟩ := nextS_ok h
        refine Ev.neg (by simp [h]) ?_
        rw [i64w (by omega)]
        exact ih _ _ (by omega) b (by omega) (by omega) (by omega)
      · rw [if_neg h]
        exact Ev.pos (by simpa using h) (Ev.now _)
  exact key _ _ _ (by omega) (by omega) (by omega) (by omega) (by omega)

theorem rCount_ev (l : List Int) (hb : Bytes l) (hl : l.length ≤ 4611686018427387904) : Ev (fun k => grapevineref6_Count k l) (countS l) := by
  unfold grapevineref6_Count countS
  refine Ev.bind (b := countS l) ?_ (Ev.now _)
  have key : ∀ (d : Nat) (n p : Int), 0 ≤ p → p ≤ (l.length : Int) → 0 ≤ n → n ≤ p → (l.length : Int) < p + d → Ev (fun k => grapevineref6_Count_l0 l k n p) (cnt l d n p) := by
    intro d
    induction d with
    | zero => intro n p h0 h1 _ _ h2; omega
    | succ d ih =>
      intro n p h0 h1 h3 h4 h2
      refine Ev.step (fun k => by rw [grapevineref6_Count_l0]) ?_
      unfold cnt
      refine Ev.ite (fun h5 => ?_) (fun h5 => ?_)
      · refine Ev.bind (rNext_ev l p hb hl (by omega)) ?_
        by_cases h : (nextS l p).2.2.2 = true
        · rw [if_pos h]
          obtain ⟨_, a, b⟩ := nextS_ok h
          refine Ev.neg (by simp [h]) ?_
          rw [i64w (by omega)]
          exact ih _ _ (by omega) b (by omega) (by omega) (by omega)
        · rw [if_neg h]
          exact Ev.pos (by simpa using h) (Ev.now _)
      · have h : ¬ (nextS l p).2.2.2 = true := fun h => by
          have := nextS_ok h; omega
        rw [if_neg h]
        exact Ev.now _
  exact key _ _ _ (by omega) (by omega) (by omega) (by omega) (by omega)

theorem awake6_ev : Ev (fun k => grapevinelaw6_awake k) true := by
  have hf : layS 3 [97, 98] = (frameOf 3 [97, 98], 0) := rfl
  have hb : Bytes (frameOf 3 [97, 98]) := frameOf_bytes 3 (by intro x hx; simp at hx; omega)
  have hl : (frameOf 3 [97, 98]).length = 14 := rfl
  unfold grapevinelaw6_awake
  refine Ev.bind (frame_Lay_ev 3 [97, 98]) ?_
  rw [hf]
  refine Ev.bind (frame_Next_ev _ 0 hb (by rw [hl]; omega) (by omega)) ?_
  refine Ev.pos (by simp [hl]) (Ev.pos (by simp [hl]) ?_)
  have e1 : nextS (frameOf 3 [97, 98]) 0 = (3, [97, 98], 14, true) := by decide +kernel
  have e2 : countS ((([] : List Int) ++ frameOf 3 [97, 98]) ++ frameOf 3 [97, 98]) = (2, 28) := by decide +kernel
  refine Ev.bind (frame_Count_ev _ (((show Bytes [] from by intro x hx; cases hx).app hb).app hb) (by simp [hl])) ?_
  refine Ev.bind (frame_Lay_ev 0 []) ?_
  refine Ev.bind (b := true) ?_ (Ev.now _)
  rw [e1, e2]
  refine Ev.pos rfl (Ev.pos (by simp [hl]) (Ev.pos rfl (Ev.pos (by decide +kernel) (Ev.pos rfl (Ev.pos rfl (Ev.pos rfl (Ev.pos rfl ?_)))))))
  exact Ev.now _
end Go.Proofs.Ytanogihdhnhpaaa.Pure
