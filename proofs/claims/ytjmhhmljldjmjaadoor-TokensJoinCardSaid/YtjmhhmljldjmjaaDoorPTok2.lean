/- Words compared and written over; what every program answers that is one. -/
import Derived.Test.YtjmhhmljldjmjaaDoorPTok
namespace Go.Proofs.YtjmhhmljldjmjaaDoor.Pure
open Go Go.Gg Go.Gp Gf
set_option linter.unusedVariables false
set_option linter.unusedSimpArgs false
theorem ext64 {a b : List T64} (hl : a.length = b.length) (h : ∀ i, i < a.length → a.getD i z64 = b.getD i z64) : a = b := by
  apply List.ext_getElem hl
  intro i h1 h2
  have := h i h1
  rwa [getD_eq a z64 h1, getD_eq b z64 h2] at this
theorem SameWords_ev (a b : List T64) (ha : a.length < 4294967296) : Ev (fun k => grapevinelaw0_SameWords k a b) (decide (a = b)) := by
  unfold grapevinelaw0_SameWords
  refine Ev.ite (fun h => ?_) (fun h => ?_)
  · have : a ≠ b := fun e => h (by rw [e])
    exact (Ev.now _).is (by simp [this])
  · have hl : a.length = b.length := by omega
    obtain ⟨r, hr, hE⟩ := Ev.loop (F := fun k (s : Int) => grapevinelaw0_SameWords_l0 a b k s) (fun s n => 0 ≤ s ∧ s + n = a.length ∧ ∀ i, i < s.toNat → a.getD i z64 = b.getD i z64) (fun r => r = if a = b then Sum.inr () else Sum.inl false) (fun s n hI => by
      obtain ⟨h0, hn, hall⟩ := hI
      by_cases h1 : s < (a.length : Int)
      · by_cases h2 : a.getD s.toNat z64 = b.getD s.toNat z64
        · refine .inr ⟨s + 1, n - 1, by omega, ⟨by omega, by omega, fun i hi => ?_⟩, fun r H => ?_⟩
          · by_cases e : i = s.toNat
            · rw [e]; exact h2
            · exact hall i (by omega)
          · refine Ev.step (fun k => by rw [grapevinelaw0_SameWords_l0]) ?_
            refine Ev.pos h1 (Ev.pos (by omega) (Ev.pos (by omega) (Ev.neg (fun h => h h2) ?_)))
            rw [i64w (by omega)]
            exact H
        · refine .inl ⟨Sum.inl false, ?_, ?_⟩
          · rw [if_neg (fun e => h2 (by rw [e]))]
          · refine Ev.step (fun k => by rw [grapevinelaw0_SameWords_l0]) ?_
            exact Ev.pos h1 (Ev.pos (by omega) (Ev.pos (by omega) (Ev.pos h2 (Ev.now _))))
      · refine .inl ⟨Sum.inr (), ?_, ?_⟩
        · rw [if_pos (ext64 hl (fun i hi => hall i (by omega)))]
        · refine Ev.step (fun k => by rw [grapevinelaw0_SameWords_l0]) ?_
          exact Ev.neg h1 (Ev.now _)) 0 a.length ⟨by omega, by omega, fun i hi => absurd hi (by simp)⟩
    refine Ev.bind hE ?_
    rw [hr]
    by_cases e : a = b
    · rw [if_pos e]; exact (Ev.now _).is (by simp [e])
    · rw [if_neg e]; exact (Ev.now _).is (by simp [e])
theorem OverWords_ev (a : List T64) (ha : a.length < 1073741824) : Ev (fun k => grapevinelaw0_OverWords k a) () := by
  unfold grapevinelaw0_OverWords
  obtain ⟨r, hr, hE⟩ := Ev.loop (F := fun k (s : Int × List T64) => grapevinelaw0_OverWords_l0 k s.1 s.2) (fun s n => 0 ≤ s.1 ∧ s.1 + n = a.length ∧ s.2.length = a.length) (fun r => r.length = a.length) (fun s n hI => by
    obtain ⟨h0, hn, hl⟩ := hI
    by_cases h1 : s.1 < (s.2.length : Int)
    · refine .inr ⟨(s.1 + 1, s.2.set s.1.toNat (⟨(⟨#[]⟩ : ByteArray), (-9)⟩ : T64)), n - 1, by omega, ⟨by simp; omega, by simp; omega, by simpa using hl⟩, fun r H => ?_⟩
      refine Ev.step (fun k => by rw [grapevinelaw0_OverWords_l0]) ?_
      refine Ev.pos h1 (Ev.pos (by omega) ?_)
      rw [i64w (by omega)]
      exact H
    · refine .inl ⟨s.2, hl, ?_⟩
      refine Ev.step (fun k => by rw [grapevinelaw0_OverWords_l0]) ?_
      exact Ev.neg h1 (Ev.now _)) (0, a) a.length ⟨by simp, by simp, rfl⟩
  refine Ev.bind hE ?_
  exact Ev.pos (by simp; omega) (Ev.now _)

theorem awake_a : OfD (⟨#[84, 111, 32, 98, 101, 44, 32, 79, 82]⟩ : ByteArray) = ([(⟨(⟨#[116, 111]⟩ : ByteArray), 0⟩ : T64), (⟨(⟨#[98, 101]⟩ : ByteArray), 1⟩ : T64), (⟨(⟨#[111, 114]⟩ : ByteArray), 2⟩ : T64)] : List T64) := by decide +kernel
theorem awake_ev : Ev (fun k => grapevinelaw1_awake k) true := by
  unfold grapevinelaw1_awake
  refine Ev.bind ?_ (Ev.now _)
  refine Ev.bind (Of_ev (by decide)) ?_
  rw [awake_a]
  refine Ev.bind (SameWords_ev _ _ (by decide)) ?_
  refine Ev.pos (by decide) ?_
  rw [May_eq (by decide), May_eq (by decide), Norm_eq (by decide), One_ev (by decide), One_ev (by decide), One_ev (by decide)]
  refine Ev.name fun v hv => ?_
  refine Ev.pos (by rw [hv]; decide +kernel) ?_
  refine Ev.name fun v hv => ?_
  refine Ev.pos (by rw [hv]; decide +kernel) ?_
  refine Ev.name fun v hv => ?_
  refine Ev.pos (by rw [hv]; decide +kernel) ?_
  refine Ev.name fun v hv => ?_
  refine Ev.pos (by rw [hv]; decide +kernel) ?_
  refine Ev.name fun v hv => ?_
  refine Ev.pos (by rw [hv]; decide +kernel) ?_
  refine Ev.name fun v hv => ?_
  exact (Ev.now _).is (by rw [hv]; decide +kernel)
theorem runes_bound (rs : List Int) : (words rs).length ≤ rs.length := by have := runs_len oth rs []; simp [words] at this ⊢; exact this
theorem OfD_len (s : ByteArray) : (OfD s).length ≤ 120 := by
  unfold OfD
  split
  · rename_i h
    simp only [Bool.and_eq_true, decide_eq_true_eq] at h
    obtain ⟨rs, hr, rfl⟩ := valid_bs h.2
    rw [runesOf_bs rs hr, Wd_length]
    rw [bs_size] at h
    have := runes_bound rs
    have := enc_length rs
    omega
  · simp
end Go.Proofs.YtjmhhmljldjmjaaDoor.Pure
