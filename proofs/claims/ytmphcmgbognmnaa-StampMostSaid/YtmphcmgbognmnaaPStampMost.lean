/- The plain law of StampMost. -/
import Derived.Test.YtmphcmgbognmnaaLStampMost
import Derived.Test.YtmphcmgbognmnaaPStamp2
namespace Go.Proofs.Ytmphcmgbognmnaa.Pure
open Go Go.Gg Go.Gp Gf
set_option linter.unusedVariables false
set_option linter.unusedSimpArgs false
theorem low_some {a b : Int} (hb : 0 < b ∧ b < 2048) : ∃ r, grapevinelaw0_Low a b = some r ∧ 0 ≤ r ∧ r < b := by
  unfold grapevinelaw0_Low
  have e1 : IntKind.u64.wrap b = b := u64w (by omega)
  have h0 : 0 ≤ IntKind.u64.wrap a ∧ IntKind.u64.wrap a < 18446744073709551616 := by rw [IntKind.wrap_u64]; omega
  rw [e1, if_pos (by omega)]
  have h1 : 0 ≤ Int.tmod (IntKind.u64.wrap a) b := Int.tmod_nonneg _ h0.1
  have h2 : Int.tmod (IntKind.u64.wrap a) b < b := Int.tmod_lt_of_pos _ hb.1
  exact ⟨_, rfl, by rw [i64w (by omega)]; exact ⟨h1, h2⟩⟩
theorem StampMost : StampMost_Pure := by
  intro l0 a1 w0 w1
  refine Ev.rounds ?_
  unfold grapevinelaw2_StampMost
  refine Ev.ite (fun _ => Ev.bind awake_ev (Ev.now _)) (fun hl => Ev.bind (Max_ev l0 (by omega)) ?_)
  refine Ev.ite (fun h0 => ?_) (fun h0 => ?_)
  · have h0 : l0.length = 0 := by omega
    rw [h0]
    exact Ev.bind (Ev.pos rfl (Ev.bind awake_ev (Ev.now _))) (Ev.now _)
  have hne : l0 ≠ [] := fun e => h0 (by simp [e])
  have hp : 0 < l0.length := List.length_pos_iff.2 hne
  obtain ⟨t, htd⟩ : ∃ t, t = mxi l0 l0.length := ⟨_, rfl⟩
  have hmem : t ∈ l0 := htd ▸ mxi_mem hne
  have htop : ∀ x ∈ l0, ¬ Lt t x := fun x hx => htd ▸ mxi_top hx
  rw [← htd]
  refine Ev.bind (b := Sum.inr true) ?_ ?_
  · obtain ⟨j, hj, ej⟩ := List.mem_iff_getElem.1 hmem
    have := Ev.count (F := fun k (s : Bool) i => grapevinelaw2_StampMost_l0 l0 t k s i) (r := Sum.inr true) (fun i => decide (∃ q, q < i ∧ q < l0.length ∧ l0.getD q z23 = t)) l0.length (fun i hi r H => by
      have hi' : (i : Int) < (l0.length : Int) := by omega
      have hi0 : (0 : Int) ≤ (i : Int) := by omega
      have hnl : ¬ Lt t (l0.getD i z23) := htop _ (getD_mem l0 z23 hi)
      have hone := Max_ev [l0.getD i z23] (by simp)
      have e1 : mxi [l0.getD i z23] ([l0.getD i z23] : List T23).length = l0.getD i z23 := by
        show (if 0 = 0 ∨ _ then ([l0.getD i z23] : List T23).getD 0 z23 else _) = _
        rw [if_pos (.inl rfl)]; rfl
      rw [e1] at hone
      refine Ev.step (fun k => rfl) ?_
      simp only [grapevinelaw2_StampMost_l0, hi', hi0, and_self, if_true, Int.toNat_natCast, step64 i (by omega), Less_some, Option.bind_some, hnl, decide_false, Bool.false_eq_true, if_false]
      have en : (if (decide (∃ q, q < i ∧ q < l0.length ∧ l0.getD q z23 = t)) = true then some true else some (decide (l0.getD i z23 = t))) = some (decide (∃ q, q < i + 1 ∧ q < l0.length ∧ l0.getD q z23 = t)) := by
        by_cases hq : ∃ q, q < i ∧ q < l0.length ∧ l0.getD q z23 = t
        · have hq' : ∃ q, q < i + 1 ∧ q < l0.length ∧ l0.getD q z23 = t := by obtain ⟨q, h1, h2⟩ := hq; exact ⟨q, by omega, h2⟩
          rw [decide_eq_true hq, decide_eq_true hq']; rfl
        · rw [decide_eq_false hq, if_neg (by simp)]
          congr 1
          refine decide_eq_decide.2 ⟨fun h => ⟨i, by omega, hi, h⟩, fun ⟨q, h1, h2, h3⟩ => ?_⟩
          by_cases e : q = i
          · subst e; exact h3
          · exact absurd ⟨q, by omega, h2, h3⟩ hq
      rw [en]
      simp only [Option.bind_some]
      refine Ev.bind (b := false) (Ev.bind hone ((Ev.now _).is (by simp))) (Ev.neg (by simp) H)) (by
      refine Ev.step (g := fun _ => some (Sum.inr true)) (fun k => ?_) (Ev.now _)
      rw [grapevinelaw2_StampMost_l0, if_neg (by omega), decide_eq_true ⟨j, hj, hj, by rw [getD_eq l0 z23 hj]; exact ej⟩])
    simpa using this
  · obtain ⟨t1, e1, h1⟩ := low_some (a := a1) (b := (l0.length : Int)) (by omega)
    simp only [e1, Option.bind_some]
    refine Ev.pos (by omega) (Ev.pos (by omega) (Ev.pos (by simp; omega) (Ev.pos (by simp; omega) (Ev.bind (b := true) ?_ (Ev.now _)))))
    refine Ev.pos trivial ?_
    obtain ⟨m, hm⟩ : ∃ m, m = ([] : List T23) ++ ((l0.take (l0.length : Int).toNat).drop t1.toNat) ++ ((l0.take t1.toNat).drop (0 : Int).toNat) := ⟨_, rfl⟩
    rw [← hm]
    have hm2 : m = l0.drop t1.toNat ++ l0.take t1.toNat := by rw [hm]; simp
    have hml : m.length = l0.length := by rw [hm2]; simp; omega
    have hsame : mxi m m.length = t := by
      rw [htd]
      refine mxi_same (fun e => by rw [e] at hml; simp at hml; omega) hne fun x => ?_
      rw [hm2, List.mem_append]
      constructor
      · rintro (h | h)
        · exact List.mem_of_mem_drop h
        · exact List.mem_of_mem_take h
      · intro h
        rw [← List.take_append_drop t1.toNat l0, List.mem_append] at h
        exact h.symm
    exact Ev.bind ((Max_ev m (by omega)).is hsame) (Ev.pos rfl (Ev.bind awake_ev (Ev.now _)))
end Go.Proofs.Ytmphcmgbognmnaa.Pure
