/- BagOnce: what is put comes once, as it was; doubled it comes twice; spoilt it is another one in just one byte. -/
import Derived.Test.YtmphcmgbognmnaaPBag
import Derived.Test.YtmphcmgbognmnaaLBagOnce
namespace Go.Proofs.Ytmphcmgbognmnaa.Pure
open Go Go.Gg Go.Gp Gf
set_option linter.unusedVariables false
set_option linter.unusedSimpArgs false
theorem BagOnce : BagOnce_Pure := by
  intro l p q to hl hp hq hto
  have hb := Bytes.of hl.2
  refine Ev.rounds (f := fun k => grapevinelaw22_BagOnce k l p q to) ?_
  unfold grapevinelaw22_BagOnce
  refine Ev.bind (b := decide ((l.length : Int) > 100 ∨ l.length = 0)) ((Ev.now _).congr fun k => ?_) ?_
  · by_cases h : (l.length : Int) > 100
    · rw [if_pos h, decide_eq_true (.inl h)]
    · rw [if_neg h]; congr 1
      rw [Bool.eq_iff_iff]; simp [show ¬ 100 < (l.length : Int) from h]
  refine Ev.ite (fun h => Ev.bind awake22_ev (Ev.now _)) (fun h => ?_)
  have hlen : 0 < l.length ∧ l.length ≤ 100 := by
    have h' : ¬ ((l.length : Int) > 100 ∨ l.length = 0) := fun e => h (decide_eq_true e)
    omega
  have hsp : (sp l p q).length = l.length := by simp [sp]
  have hat := spAt_lt hlen.1 p
  have hby := spBy_range q
  have hx := xor8 (hb.get (spAt l p)) (b := spBy q) (by omega)
  have hne : (sp l p q).getD (spAt l p) 0 ≠ l.getD (spAt l p) 0 := by
    unfold sp
    rw [getD_set_eq' _ _ hat]
    intro e
    have := hx.2 e
    omega
  have hsame : ∀ j, j ≠ spAt l p → (sp l p q).getD j 0 = l.getD j 0 := fun j hj => getD_set_ne' _ _ (fun e => hj e.symm)
  have p1 : bag_Bag_Put ⟨3, []⟩ to l = some (0, ⟨3, [⟨to, l, false⟩]⟩) := Put_some (b := ⟨3, []⟩) (by simp) (by simp) to (by omega)
  have p2 : bag_Bag_Twice_25 ⟨3, [⟨to, l, false⟩]⟩ 0 = some (0, ⟨3, [⟨to, l, false⟩, ⟨to, l, false⟩]⟩) := Twice_some (b := ⟨3, [⟨to, l, false⟩]⟩) (i := 0) (by simp) (by simp) (by simp) (by simp; omega)
  have p3 : bag_Bag_Spoil ⟨3, [⟨to, l, false⟩, ⟨to, l, false⟩]⟩ 1 p q = some (true, ⟨3, [⟨to, l, false⟩, ⟨to, sp l p q, true⟩]⟩) := Spoil_some (b := ⟨3, [⟨to, l, false⟩, ⟨to, l, false⟩]⟩) (i := 1) (by simp) (by simp) rfl hlen.1 (by simp; omega) p q
  have p4 : bag_Bag_Spoil ⟨3, [⟨to, l, false⟩, ⟨to, sp l p q, true⟩]⟩ 1 p q = some (false, ⟨3, [⟨to, l, false⟩, ⟨to, sp l p q, true⟩]⟩) := Spoil_old (b := ⟨3, [⟨to, l, false⟩, ⟨to, sp l p q, true⟩]⟩) (i := 1) (by simp) (by simp) rfl p q
  have p5 : bag_Bag_Twice_25 ⟨3, [⟨to, l, false⟩, ⟨to, sp l p q, true⟩]⟩ 1 = some (0, ⟨3, [⟨to, l, false⟩, ⟨to, sp l p q, true⟩, ⟨to, sp l p q, true⟩]⟩) := Twice_some (b := ⟨3, [⟨to, l, false⟩, ⟨to, sp l p q, true⟩]⟩) (i := 1) (by simp) (by simp) (by simp) (by simp; omega)
  have p6 : bag_Bag_Spoil ⟨3, [⟨to, l, false⟩, ⟨to, sp l p q, true⟩, ⟨to, sp l p q, true⟩]⟩ 2 p q = some (false, ⟨3, [⟨to, l, false⟩, ⟨to, sp l p q, true⟩, ⟨to, sp l p q, true⟩]⟩) := Spoil_old (b := ⟨3, [⟨to, l, false⟩, ⟨to, sp l p q, true⟩, ⟨to, sp l p q, true⟩]⟩) (i := 2) (by simp) (by simp) rfl p q
  have t1 : bag_Bag_Take ⟨3, [⟨to, l, false⟩, ⟨to, sp l p q, true⟩, ⟨to, sp l p q, true⟩]⟩ 0 = some (to, l, true, ⟨3, [⟨to, sp l p q, true⟩, ⟨to, sp l p q, true⟩]⟩) := Take_some (b := ⟨3, [⟨to, l, false⟩, ⟨to, sp l p q, true⟩, ⟨to, sp l p q, true⟩]⟩) (i := 0) (by simp) (by simp)
  have t2 : bag_Bag_Take ⟨3, [⟨to, sp l p q, true⟩, ⟨to, sp l p q, true⟩]⟩ 0 = some (to, sp l p q, true, ⟨3, [⟨to, sp l p q, true⟩]⟩) := Take_some (b := ⟨3, [⟨to, sp l p q, true⟩, ⟨to, sp l p q, true⟩]⟩) (i := 0) (by simp) (by simp)
  have t3 : bag_Bag_Take ⟨3, [⟨to, sp l p q, true⟩]⟩ 0 = some (to, sp l p q, true, ⟨3, []⟩) := Take_some (b := ⟨3, [⟨to, sp l p q, true⟩]⟩) (i := 0) (by simp) (by simp)
  have t4 : bag_Bag_Take ⟨3, []⟩ 0 = some (0, [], false, ⟨3, []⟩) := Take_none rfl 0
  have t5 : bag_Bag_Drop ⟨3, []⟩ 0 = some (false, ⟨3, []⟩) := Drop_none rfl 0
  have t6 : bag_Bag_Twice_25 ⟨3, []⟩ 0 = some (13, ⟨3, []⟩) := Twice_none rfl 0
  simp only [New_some (m := 3) (by omega), Option.bind_some, Option.elim_some]
  refine Ev.bind (b := (false, ⟨3, [⟨to, l, false⟩, ⟨to, sp l p q, true⟩, ⟨to, sp l p q, true⟩]⟩)) ((Ev.now _).congr fun k => by simp [p1, p2, p3, p4, p5, p6]) (Ev.neg (by simp) ?_)
  simp only [t1, t2, t3, t4, t5, t6, Option.bind_some]
  have s1 := (SameBytes_ev l l (by omega)).is (decide_eq_true rfl)
  have s2 := (SameBytes_ev (sp l p q) (sp l p q) (by omega)).is (decide_eq_true rfl)
  refine Ev.bind (b := false) (Ev.neg (by simp) (Ev.neg (by simp) (Ev.neg (by simp) (Ev.neg (by simp) (Ev.neg (by simp) (Ev.neg (by simp) (Ev.bind s1 (Ev.neg (by simp) (Ev.bind s2 (Ev.neg (by simp) ((Ev.now _).is (by simp [hsp])))))))))))) (Ev.neg (by simp) ?_)
  have cnt : Ev (fun k => grapevinelaw22_BagOnce_l0 l (to, sp l p q, true, ⟨3, [⟨to, sp l p q, true⟩]⟩) k 0 0) 1 := by
    have := Ev.count (F := fun k s i => grapevinelaw22_BagOnce_l0 l (to, sp l p q, true, ⟨3, [⟨to, sp l p q, true⟩]⟩) k s i) (r := (1 : Int)) (fun i => if spAt l p < i then (1 : Int) else 0) l.length (fun i hi r H => by
      refine Ev.step (fun k => by rw [grapevinelaw22_BagOnce_l0, step64 i (by omega), Int.toNat_natCast]) ?_
      refine Ev.pos (by simp only [hsp]; omega) (Ev.pos (by simp only [hsp]; omega) (Ev.pos (by omega) ?_))
      by_cases he : i = spAt l p
      · subst he
        rw [if_pos (by omega)] at H
        rw [if_neg (by omega)]
        refine Ev.pos hne ?_
        rw [i64w (by omega)]
        exact H
      · have e : (if spAt l p < i + 1 then (1 : Int) else 0) = if spAt l p < i then 1 else 0 := by
          by_cases h' : spAt l p < i
          · rw [if_pos h', if_pos (by omega)]
          · rw [if_neg h', if_neg (by omega)]
        rw [e] at H
        exact Ev.neg (fun h => h (hsame i he)) H) (by
      rw [if_pos hat]
      exact Ev.step (g := fun _ => some (1 : Int)) (fun k => by rw [grapevinelaw22_BagOnce_l0, if_neg (by simp only [hsp]; omega)]) (Ev.now _))
    simpa using this
  refine Ev.bind cnt ?_
  exact Ev.bind (b := (true, ⟨3, []⟩)) (Ev.pos (by simp) (Ev.pos (by simp) (Ev.pos (by simp) (Ev.pos (by simp) (Ev.bind awake22_ev (Ev.now _)))))) (Ev.now _)
end Go.Proofs.Ytmphcmgbognmnaa.Pure
