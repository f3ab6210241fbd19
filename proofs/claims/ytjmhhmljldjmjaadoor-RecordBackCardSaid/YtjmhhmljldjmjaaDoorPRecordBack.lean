/- The plain law of RecordBack. -/
import Derived.Test.YtjmhhmljldjmjaaDoorLRecordBack
import Derived.Test.YtjmhhmljldjmjaaDoorPRec
namespace Go.Proofs.YtjmhhmljldjmjaaDoor.Pure
open Go Go.Gg Go.Gp Gf
set_option linter.unusedVariables false
set_option linter.unusedSimpArgs false
theorem RecordBack : RecordBack_Pure := by
  intro a0 l1 l2 a3 w0 w1 w2 w3
  refine Ev.rounds ?_
  unfold grapevinelaw4_RecordBack
  by_cases h1 : (a0.f4.size : Int) > 300
  case pos =>
    simp only [if_pos h1]
    exact Ev.bind (b := true) (Ev.now _) (Ev.pos rfl (Ev.bind awake_ev (Ev.now _)))
  by_cases h2 : (l1.length : Int) > 300
  case pos =>
    simp only [if_neg h1, if_pos h2]
    exact Ev.bind (b := true) (Ev.now _) (Ev.pos rfl (Ev.bind awake_ev (Ev.now _)))
  simp only [if_neg h1, if_neg h2]
  refine Ev.bind (Ev.now _) (Ev.ite (fun _ => Ev.bind awake_ev (Ev.now _)) (fun h3 => ?_))
  have h3 : ¬ (l2.length : Int) > 300 := by simpa using h3
  refine Ev.bind (Lay_ev a0) ?_
  by_cases hm : Mayr a0
  case neg =>
    have e : laid a0 = ([], 2) := if_neg hm
    rw [e]
    refine Ev.pos (by simp) (Ev.bind (b := true) (Ev.pos rfl (Ev.pos rfl ?_)) (Ev.now _))
    simp only [May_some, hm, decide_false, Option.bind_some]
    exact Ev.pos rfl (Ev.bind awake_ev (Ev.now _))
  have e : laid a0 = (lay a0, 0) := if_pos hm
  rw [e]
  have hll := len_lay a0
  have hsz := hm.2.2.1
  have b1 := Bytes.of w1.2
  have b2 := Bytes.of w2.2
  have b0 := lay_bytes a0
  refine Ev.neg (by simp) (Ev.neg (by simp only; omega) (Ev.pos (by simp; omega) (Ev.pos (by simp; omega) (Ev.pos (by simp; omega) ?_))))
  refine Ev.name fun v hv => ?_
  have hv : v = l1 ++ lay a0 ++ l2 := by rw [hv]; simp
  have hvl : v.length = l1.length + (lay a0).length + l2.length := by rw [hv]; simp; omega
  have hvb : Bytes v := hv ▸ (b1.app b0).app b2
  have r1 := rd_lay hm l1 l2
  rw [← hv] at r1
  refine Ev.bind ((Read_ev hvb (by omega) (by omega)).is r1) ?_
  obtain ⟨c, ec, hc⟩ := low_some (a := a3) (b := ((lay a0).length : Int)) (by omega)
  simp only [ec, Option.bind_some]
  have ew : IntKind.i64.wrap ((l1.length : Int) + c) = ((l1.length + c.toNat : Nat) : Int) := by rw [i64w (by omega)]; omega
  rw [ew]
  refine Ev.pos (by omega) ?_
  have ecut : (v.take (((l1.length + c.toNat : Nat) : Int)).toNat).drop (0 : Int).toNat = l1 ++ (lay a0).take c.toNat := by
    rw [hv, Int.toNat_natCast, List.append_assoc, List.take_append, List.take_of_length_le (by omega)]
    have e1 : l1.length + c.toNat - l1.length = c.toNat := by omega
    rw [e1, List.take_append, show c.toNat - (lay a0).length = 0 by omega]
    simp
  simp only [ecut]
  have r2 := rd_cut hm l1 (c := c.toNat) (by omega)
  refine Ev.bind ((Read_ev (b1.app (b0.take _)) (by simp; omega) (by omega)).is r2) (Ev.bind (b := true) ?_ (Ev.now _))
  refine Ev.pos (by simp) (Ev.pos ?_ (Ev.pos (by simp) (Ev.pos (by simp [none27]) (Ev.bind awake_ev (Ev.now _)))))
  rw [i64w (by omega)]; omega
end Go.Proofs.YtjmhhmljldjmjaaDoor.Pure
