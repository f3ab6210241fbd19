/- Bytes compared, lent, kept and written over, in plain words. -/
import Derived.Test.YtjmhhmljldjmjaaDoorF0
import Derived.Test.YtjmhhmljldjmjaaDoorF1
import Derived.Test.YtjmhhmljldjmjaaDoorF4
import Derived.Test.YtjmhhmljldjmjaaDoorGgQ
namespace Go.Proofs.YtjmhhmljldjmjaaDoor.Pure
open Go Go.Gg Go.Gp Gf
set_option linter.unusedVariables false
set_option linter.unusedSimpArgs false
theorem SameBytes_ev (a b : List Int) (ha : a.length < 4294967296) : Ev (fun k => grapevinelaw0_SameBytes k a b) (decide (a = b)) := by
  have hs := ha
  unfold grapevinelaw0_SameBytes
  refine Ev.ite (fun h => ?_) (fun h => ?_)
  · have : a ≠ b := fun e => h (by rw [e])
    exact (Ev.now _).is (by simp [this])
  · have hl : a.length = b.length := by omega
    obtain ⟨r, hr, hE⟩ := Ev.loop (F := fun k (s : Int) => grapevinelaw0_SameBytes_l0 a b k s) (fun s n => 0 ≤ s ∧ s + n = a.length ∧ ∀ i, i < s.toNat → a.getD i 0 = b.getD i 0) (fun r => r = if a = b then Sum.inr () else Sum.inl false) (fun s n hI => by
      obtain ⟨h0, hn, hall⟩ := hI
      by_cases h1 : s < (a.length : Int)
      · by_cases h2 : a.getD s.toNat 0 = b.getD s.toNat 0
        · refine .inr ⟨s + 1, n - 1, by omega, ⟨by omega, by omega, fun i hi => ?_⟩, fun r H => ?_⟩
          · by_cases e : i = s.toNat
            · rw [e]; exact h2
            · exact hall i (by omega)
          · refine Ev.step (fun k => by rw [grapevinelaw0_SameBytes_l0]) ?_
            refine Ev.pos h1 (Ev.pos (by omega) (Ev.pos (by omega) (Ev.neg (fun h => h h2) ?_)))
            rw [i64w (by omega)]
            exact H
        · refine .inl ⟨Sum.inl false, ?_, ?_⟩
          · rw [if_neg (fun e => h2 (by rw [e]))]
          · refine Ev.step (fun k => by rw [grapevinelaw0_SameBytes_l0]) ?_
            exact Ev.pos h1 (Ev.pos (by omega) (Ev.pos (by omega) (Ev.pos h2 (Ev.now _))))
      · refine .inl ⟨Sum.inr (), ?_, ?_⟩
        · rw [if_pos (list_ext_getD hl (fun i hi => hall i (by omega)))]
        · refine Ev.step (fun k => by rw [grapevinelaw0_SameBytes_l0]) ?_
          exact Ev.neg h1 (Ev.now _)) 0 a.length ⟨by omega, by omega, fun i hi => absurd hi (by simp)⟩
    refine Ev.bind hE ?_
    rw [hr]
    by_cases e : a = b
    · rw [if_pos e]; exact (Ev.now _).is (by simp [e])
    · rw [if_neg e]; exact (Ev.now _).is (by simp [e])

theorem KeptBytes_ev (a b : List Int) (ha : a.length ≤ 1073741824) : Ev (fun k => grapevinelaw0_KeptBytes k a b) (decide (a = b)) := by
  have e : IntKind.i64.wrap ((a.length : Int) + 3) = (a.length : Int) + 3 := i64w (by omega)
  have em : ((a ++ ([119, 119, 119] : List Int)).take ((a.length : Int) + 3).toNat).drop (a.length : Int).toNat = [119, 119, 119] := by
    rw [show ((a.length : Int) + 3).toNat = a.length + 3 by omega, List.take_of_length_le (by simp)]
    simp
  unfold grapevinelaw0_KeptBytes
  rw [e]
  refine Ev.pos ⟨by omega, by omega, by simp⟩ ?_
  simp only [em]
  refine Ev.name fun v hv => ?_
  subst hv
  have key : ∀ (i : Nat), i ≤ 3 → Ev (fun k => grapevinelaw0_KeptBytes_l0 [119, 119, 119] k ((3 - i : Nat) : Int)) (Sum.inr ()) := by
    intro i
    induction i with
    | zero =>
      intro _
      refine Ev.step (fun k => by rw [grapevinelaw0_KeptBytes_l0]) ?_
      exact Ev.neg (by omega) (Ev.now _)
    | succ i ih =>
      intro hi
      have ih := ih (by omega)
      refine Ev.step (fun k => by rw [grapevinelaw0_KeptBytes_l0]) ?_
      refine Ev.pos (by omega) (Ev.pos (by simp; omega) (Ev.neg ?_ ?_))
      · have : i = 0 ∨ i = 1 ∨ i = 2 := by omega
        rcases this with rfl | rfl | rfl <;> simp
      · rw [i64w (by omega), show (((3 - (i + 1) : Nat) : Int) + 1) = ((3 - i : Nat) : Int) by omega]
        exact ih
  refine Ev.bind (key 3 (by omega)) ?_
  exact Ev.bind (SameBytes_ev a b (by omega)) (Ev.now _)

theorem OverBytes_ev (a : List Int) (ha : a.length < 1073741824) : Ev (fun k => grapevinelaw0_OverBytes k a) () := by
  unfold grapevinelaw0_OverBytes
  obtain ⟨r, hr, hE⟩ := Ev.loop (F := fun k (s : Int × List Int) => grapevinelaw0_OverBytes_l0 k s.1 s.2) (fun s n => 0 ≤ s.1 ∧ s.1 + n = a.length ∧ s.2.length = a.length) (fun r => r.length = a.length) (fun s n hI => by
    obtain ⟨h0, hn, hl⟩ := hI
    by_cases h1 : s.1 < (s.2.length : Int)
    · refine .inr ⟨(s.1 + 1, s.2.set s.1.toNat 238), n - 1, by omega, ⟨by simp; omega, by simp; omega, by simpa using hl⟩, fun r H => ?_⟩
      refine Ev.step (fun k => by rw [grapevinelaw0_OverBytes_l0]) ?_
      refine Ev.pos h1 (Ev.pos (by omega) ?_)
      rw [i64w (by omega)]
      exact H
    · refine .inl ⟨s.2, hl, ?_⟩
      refine Ev.step (fun k => by rw [grapevinelaw0_OverBytes_l0]) ?_
      exact Ev.neg h1 (Ev.now _)) (0, a) a.length ⟨by simp, by simp, rfl⟩
  refine Ev.bind hE ?_
  exact Ev.pos (by simp; omega) (Ev.now _)

theorem low_some {a b : Int} (hb : 0 < b ∧ b < 4294967296) : ∃ r, grapevinelaw0_Low a b = some r ∧ 0 ≤ r ∧ r < b := by
  unfold grapevinelaw0_Low
  have e1 : IntKind.u64.wrap b = b := u64w (by omega)
  have h0 : 0 ≤ IntKind.u64.wrap a ∧ IntKind.u64.wrap a < 18446744073709551616 := by rw [IntKind.wrap_u64]; omega
  rw [e1, if_pos (by omega)]
  have h1 : 0 ≤ Int.tmod (IntKind.u64.wrap a) b := Int.tmod_nonneg _ h0.1
  have h2 : Int.tmod (IntKind.u64.wrap a) b < b := Int.tmod_lt_of_pos _ hb.1
  exact ⟨_, rfl, by rw [i64w (by omega)]; exact ⟨h1, h2⟩⟩
end Go.Proofs.YtjmhhmljldjmjaaDoor.Pure
