/- What the document lays of records. -/
import Derived.Test.YtfocilpnbiciaaaDoorF7
import Derived.Test.YtfocilpnbiciaaaDoorPRec
namespace Go.Proofs.YtfocilpnbiciaaaDoor.Pure
open Go Go.Gg Go.Gp Gf
set_option linter.unusedVariables false
set_option linter.unusedSimpArgs false
theorem rput_ev (n : Nat) : ∀ (s : Nat) (l : List Int), s ≤ 8 → l.length + s ≤ 1073741824 → Ev (fun k => grapevineref4_Num_l0 (n : Int) k l ((s : Int) - 1)) (l ++ be n s)
  | 0, l, _, _ => Ev.step (g := fun _ => some l) (fun k => by rw [grapevineref4_Num_l0, if_neg (by omega)]) ((Ev.now _).is (by simp [be]))
  | s + 1, l, h, hl => by
    refine Ev.step (fun k => ?_) ((rput_ev n s (l ++ [((n / 256 ^ s % 256 : Nat) : Int)]) (by omega) (by simp; omega)).is (by simp [be]))
    have e1 : (((s + 1 : Nat) : Int) - 1) = (s : Int) := by omega
    have e2 : IntKind.i64.wrap (8 * (s : Int)) = ((8 * s : Nat) : Int) := by rw [i64w (by omega)]; omega
    have e3 : IntKind.i64.wrap ((s : Int) - 1) = (s : Int) - 1 := i64w (by omega)
    rw [grapevineref4_Num_l0, e1, e2, e3, shr_i64 n s (by omega), byte_of, if_pos (by omega), if_pos (by omega), if_pos (by simp; omega)]
theorem rPut_ev {x : Int} (hx : 0 ≤ x) (s : Nat) (l : List Int) (h : s ≤ 8) (hl : l.length + s ≤ 1073741824) : Ev (fun k => grapevineref4_Num k l x (s : Int)) (l ++ be x.toNat s) := by
  obtain ⟨n, rfl⟩ : ∃ n : Nat, x = n := ⟨x.toNat, by omega⟩
  unfold grapevineref4_Num
  rw [i64w (by omega)]
  exact Ev.bind (rput_ev n s l h hl) (Ev.now _)
theorem rLay_ev (r : T39) : Ev (fun k => grapevineref4_Lay k r) (laid r) := by
  unfold grapevineref4_Lay laid
  simp only [rMay_some, Option.bind_some]
  by_cases h : Mayr r
  · simp only [h, decide_true, Bool.not_true, Bool.false_eq_true, if_false, if_true]
    obtain ⟨⟨a0, _, a1, _⟩, ⟨a2, _, a3, _⟩, a4, _⟩ := h
    refine Ev.bind (rPut_ev a0 1 [] (by omega) (by simp)) (Ev.bind (rPut_ev (by omega) 2 _ (by omega) (by simp [len_be])) (Ev.bind (rPut_ev a2 6 _ (by omega) (by simp [len_be])) (Ev.bind (rPut_ev a3 2 _ (by omega) (by simp [len_be])) (Ev.bind (rPut_ev (by omega) 1 _ (by omega) (by simp [len_be])) (Ev.pos ?_ ((Ev.now _).is ?_))))))
    · simp [len_be, len_bytesOf]; omega
    · simp [lay, head]
  · simp only [h, decide_false, Bool.not_false, if_true, if_false]
    exact Ev.now _
end Go.Proofs.YtfocilpnbiciaaaDoor.Pure
