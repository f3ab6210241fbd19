/- BagRows: what is put comes in the order in which it was put. -/
import Derived.Test.YtmphcmgbognmnaaPBag
import Derived.Test.YtmphcmgbognmnaaLBagRows
namespace Go.Proofs.Ytmphcmgbognmnaa.Pure
open Go Go.Gg Go.Gp Gf
set_option linter.unusedVariables false
set_option linter.unusedSimpArgs false
def row (i : Nat) : T94 := ⟨(i : Int), [(i : Int), 7], false⟩
def rows (n : Nat) : List T94 := (List.range n).map row
theorem len_rows (n : Nat) : (rows n).length = n := by simp [rows]
theorem rows_succ (n : Nat) : rows (n + 1) = rows n ++ [row n] := by simp [rows, List.range_succ]
theorem rows_get {n i : Nat} (h : i < n) : (rows n)[i]'(by rw [len_rows]; exact h) = row i := by simp [rows]
def left (n w i : Nat) : List T94 := if i ≤ w then ((rows n).eraseIdx w).drop i else (rows n).drop i
theorem left_skip {n w : Nat} (h : w < n) : left n w w = left n w (w + 1) := by
  unfold left
  rw [if_pos (Nat.le_refl _), if_neg (by omega), List.eraseIdx_eq_take_drop_succ, List.drop_append_of_le_length (by rw [List.length_take, len_rows]; omega)]
  rw [List.drop_eq_nil_of_le (by rw [List.length_take, len_rows]; omega), List.nil_append]
theorem left_next {n w i : Nat} (hw : w < n) (hi : i < n) (h : i ≠ w) : left n w i = row i :: left n w (i + 1) := by
  unfold left
  by_cases hlt : i < w
  · rw [if_pos (by omega), if_pos (by omega), List.drop_eq_getElem_cons (by rw [List.length_eraseIdx, len_rows, if_pos hw]; omega)]
    congr 1
    rw [List.getElem_eraseIdx_of_lt _ hlt, rows_get hi]
  · rw [if_neg (by omega), if_neg (by omega), List.drop_eq_getElem_cons (by rw [len_rows]; exact hi), rows_get hi]
theorem left_len {n w i : Nat} (hw : w < n) : (left n w i).length ≤ n := by
  unfold left
  split
  · rw [List.length_drop, List.length_eraseIdx, len_rows, if_pos hw]; omega
  · rw [List.length_drop, len_rows]; omega
theorem BagRows : BagRows_Pure := by
  intro a0 a1 a2 h0 h1 h2
  refine Ev.rounds (f := fun k => grapevinelaw22_BagRows k a0 a1 a2) ?_
  unfold grapevinelaw22_BagRows
  obtain ⟨most, e1, m0, m1⟩ := low_some (a := a0) (b := 25) (by omega)
  obtain ⟨many, e2, n0, n1⟩ := low_some (a := a1) (b := 30) (by omega)
  simp only [e1, e2, Option.bind_some, New_some (m := most) (by omega), Option.elim_some]
  obtain ⟨M, rfl⟩ : ∃ M : Nat, most = (M : Int) := ⟨most.toNat, by omega⟩
  obtain ⟨N, rfl⟩ : ∃ N : Nat, many = (N : Int) := ⟨many.toNat, by omega⟩
  have fill : Ev (fun k => grapevinelaw22_BagRows_l0 (M : Int) (N : Int) k 0 ⟨(M : Int), []⟩) (Sum.inr ⟨(M : Int), rows (min N M)⟩) := by
    have := Ev.count (F := fun k s i => grapevinelaw22_BagRows_l0 (M : Int) (N : Int) k i s) (r := (Sum.inr ⟨(M : Int), rows (min N M)⟩ : Sum Bool T89)) (fun i => (⟨(M : Int), rows (min i M)⟩ : T89)) N (fun i hi r H => by
      have eb : IntKind.u8.wrap (i : Int) = (i : Int) := u8w (by omega)
      refine Ev.step (fun k => by rw [grapevinelaw22_BagRows_l0, step64 i (by omega), eb]) ?_
      refine Ev.pos (by omega) ?_
      by_cases hf : i < M
      · have em : min i M = i := by omega
        have em2 : min (i + 1) M = i + 1 := by omega
        rw [em2, rows_succ] at H
        rw [em]
        refine Ev.neg (by omega) (Ev.tell (fun k => Put_some (b := ⟨(M : Int), rows i⟩) (by simp only [len_rows]; omega) (by simp only [len_rows]; omega) _ (by simp)) (Ev.neg (by simp) H))
      · have em : min i M = M := by omega
        have em2 : min (i + 1) M = M := by omega
        rw [em2] at H
        rw [em]
        refine Ev.pos (by omega) (Ev.tell (fun k => Put_full (b := ⟨(M : Int), rows M⟩) (by simp only [len_rows]; omega) _ _) (Ev.neg (by simp) H))) (by
      refine Ev.step (fun k => by rw [grapevinelaw22_BagRows_l0]) (Ev.neg (by omega) (Ev.now _)))
    simpa [rows] using this
  refine Ev.bind fill ?_
  have en : (if (N : Int) < (M : Int) then (N : Int) else (M : Int)) = ((min N M : Nat) : Int) := by split <;> omega
  simp only [en]
  generalize hn : min N M = n
  have hn30 : n < 30 := by omega
  by_cases hz : n = 0
  · subst hz
    have hb : (⟨(M : Int), rows 0⟩ : T89).f1 = [] := rfl
    refine Ev.pos (by simp) (Ev.tell (fun k => Take_none hb a2) ?_)
    exact Ev.bind (b := (true, ⟨(M : Int), rows 0⟩)) (Ev.pos (by simp) (Ev.tell (fun k => Drop_none hb a2) (Ev.pos (by simp) (Ev.tell (fun k => rfl) (Ev.pos (by simp [rows]) (Ev.bind awake22_ev (Ev.now _))))))) (Ev.now _)
  refine Ev.neg (by omega) ?_
  obtain ⟨w, e3, w0, w1⟩ := low_some (a := a2) (b := (n : Int)) (by omega)
  obtain ⟨w, rfl⟩ : ∃ W : Nat, w = (W : Int) := ⟨w.toNat, by omega⟩
  simp only [e3, Option.bind_some]
  have hw : w < n := by omega
  have hd := Drop_some (b := ⟨(M : Int), rows n⟩) (i := w) (by simp only [len_rows]; omega) (by simp only [len_rows]; omega)
  refine Ev.bind (b := (false, ⟨(M : Int), (rows n).eraseIdx w⟩)) (Ev.tell (fun k => Len_some _) (Ev.neg (by simp [len_rows]) (Ev.tell (fun k => hd) ((Ev.now _).is (by simp))))) (Ev.neg (by simp) ?_)
  have take : Ev (fun k => grapevinelaw22_BagRows_l1 (M : Int) (N : Int) (w : Int) k 0 ⟨(M : Int), (rows n).eraseIdx w⟩) (Sum.inr ⟨(M : Int), []⟩) := by
    have := Ev.count (F := fun k s i => grapevinelaw22_BagRows_l1 (M : Int) (N : Int) (w : Int) k i s) (r := (Sum.inr ⟨(M : Int), []⟩ : Sum Bool T89)) (fun i => (⟨(M : Int), left n w i⟩ : T89)) n (fun i hi r H => by
      have eb : IntKind.u8.wrap (i : Int) = (i : Int) := u8w (by omega)
      refine Ev.step (fun k => by rw [grapevinelaw22_BagRows_l1, step64 i (by omega), eb, en, hn]) ?_
      refine Ev.pos (by omega) ?_
      by_cases he : i = w
      · subst he
        rw [← left_skip hw] at H
        exact Ev.pos rfl H
      · have hl := left_next hw hi he
        have hlen := left_len (i := i) hw
        have ht := Take_some (b := ⟨(M : Int), left n w i⟩) (i := 0) (by simp only [hl]; simp) (by simp only; omega)
        simp only [hl] at ht
        rw [hl]
        refine Ev.neg (by omega) (Ev.tell (fun k => ht) (Ev.bind (b := false) (Ev.neg (by simp [row]) (Ev.bind ((SameBytes_ev _ _ (by simp [row])).is (decide_eq_true (by simp [row]))) (Ev.neg (by simp) ((Ev.now _).is (by simp))))) (Ev.neg (by simp) ?_)))
        simpa using H) (by
      refine Ev.step (fun k => by rw [grapevinelaw22_BagRows_l1, en, hn]) (Ev.neg (by omega) ((Ev.now _).is ?_))
      have : left n w n = [] := by unfold left; rw [if_neg (by omega)]; exact List.drop_eq_nil_of_le (by rw [len_rows]; omega)
      rw [this])
    have e0 : left n w 0 = (rows n).eraseIdx w := by unfold left; rw [if_pos (by omega), List.drop_zero]
    rw [e0] at this
    exact this
  refine Ev.bind take ?_
  exact Ev.bind (b := true) (Ev.tell (fun k => rfl) (Ev.pos (by simp) (Ev.bind awake22_ev (Ev.now _)))) (Ev.now _)
end Go.Proofs.Ytmphcmgbognmnaa.Pure
