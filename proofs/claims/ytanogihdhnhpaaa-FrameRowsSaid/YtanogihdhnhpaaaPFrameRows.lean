/- FrameRows: as many frames as were laid one behind the other are counted, whatever stands behind that is no frame. -/
import Derived.Test.YtanogihdhnhpaaaLFrameRows
import Derived.Test.YtanogihdhnhpaaaPFrame3
namespace Go.Proofs.Ytanogihdhnhpaaa.Pure
open Go Go.Gg Go.Gp Gf
set_option linter.unusedVariables false

theorem rows_l0_ev (bs : List (List Int)) (t kind : Int) (hbs : bs.length ≤ 12) (hk : 1 ≤ kind ∧ kind ≤ 255) (ht : IntKind.i64.wrap (1 + t) = kind) :
    ∃ r, (r = Sum.inl true ∨ ((∀ b ∈ bs, b.length ≤ 100) ∧ r = Sum.inr (rowsOf kind bs))) ∧ Ev (fun k => grapevinelaw6_FrameRows_l0 bs t k [] 0) r := by
  refine Ev.loop (F := fun k (s : List Int × Int) => grapevinelaw6_FrameRows_l0 bs t k s.1 s.2) (fun s n => 0 ≤ s.2 ∧ s.2 + n = bs.length ∧ s.1 = rowsOf kind (bs.take s.2.toNat) ∧ ∀ i, i < s.2.toNat → (bs.getD i []).length ≤ 100) (fun r => r = Sum.inl true ∨ ((∀ b ∈ bs, b.length ≤ 100) ∧ r = Sum.inr (rowsOf kind bs))) (fun s n hI => ?_) ([], 0) bs.length ⟨by simp, by simp, by simp [rowsOf], fun i hi => absurd hi (by simp)⟩
  obtain ⟨y, i⟩ := s
  obtain ⟨h0, hn, hy, hall⟩ := hI
  simp only at h0 hn hy hall ⊢
  by_cases h1 : i < (bs.length : Int)
  · by_cases h2 : ((bs.getD i.toNat []).length : Int) > 100
    · refine .inl ⟨Sum.inl true, .inl rfl, ?_⟩
      refine Ev.step (fun k => by rw [grapevinelaw6_FrameRows_l0]) ?_
      exact Ev.pos h1 (Ev.pos (by omega) (Ev.pos h2 (Ev.bind awake6_ev (Ev.now _))))
    · have hlen : (rowsOf kind (bs.take i.toNat)).length ≤ 12 * 112 := by
        have h := (rowsOf_len (kind := kind) (m := 100) (bs := bs.take i.toNat) (fun b hb => by
          obtain ⟨q, hq, rfl⟩ := List.mem_iff_getElem.1 hb
          simp only [List.length_take] at hq
          have := hall q (by omega)
          rw [getD_eq bs [] (by omega)] at this
          simpa using this)).2
        have h3 : (bs.take i.toNat).length * (100 + 12) ≤ 12 * 112 := Nat.mul_le_mul (by rw [List.length_take]; omega) (by omega)
        omega
      refine .inr ⟨(y ++ frameOf kind (bs.getD i.toNat []), i + 1), n - 1, by omega, ⟨by simp; omega, by simp; omega, ?_, fun j hj => ?_⟩, fun r H => ?_⟩
      · simp only
        rw [show (i + 1).toNat = i.toNat + 1 by omega, rowsOf_take bs (by omega), hy]
      · simp only at hj
        by_cases e : j = i.toNat
        · rw [e]; omega
        · exact hall j (by omega)
      · refine Ev.step (fun k => by rw [grapevinelaw6_FrameRows_l0, ht]) ?_
        refine Ev.pos h1 (Ev.pos (by omega) (Ev.neg h2 (Ev.pos (by omega) ?_)))
        refine Ev.bind (frame_Lay_ev kind _) ?_
        rw [show layS kind (bs.getD i.toNat []) = (frameOf kind (bs.getD i.toNat []), 0) from if_neg (by omega)]
        have hL := len_frameOf kind (bs.getD i.toNat [])
        refine Ev.bind (b := false) ?_ ?_
        · refine Ev.neg (by simp) (Ev.pos (by omega) ((Ev.now _).is ?_))
          rw [i64w (by omega), hL]; simp
        · refine Ev.neg (by simp) (Ev.pos (by rw [hy, hL]; omega) ?_)
          rw [i64w (by omega)]
          exact H
  · refine .inl ⟨Sum.inr y, .inr ⟨fun b hb => ?_, ?_⟩, ?_⟩
    · obtain ⟨q, hq, rfl⟩ := List.mem_iff_getElem.1 hb
      have := hall q (by omega)
      rwa [getD_eq bs [] hq] at this
    · rw [hy, List.take_of_length_le (by omega)]
    · refine Ev.step (fun k => by rw [grapevinelaw6_FrameRows_l0]) ?_
      exact Ev.neg h1 (Ev.now _)

theorem FrameRows : FrameRows_Pure := by
  intro bs x behind hb _ hbe
  refine Ev.rounds ?_
  unfold grapevinelaw6_FrameRows
  refine Ev.bind (b := decide ((bs.length : Int) > 12 ∨ (behind.length : Int) > 100)) ?_ ?_
  · refine Ev.ite (fun h => (Ev.now _).is (decide_eq_true (.inl h)).symm) (fun h => (Ev.now _).is ?_)
    rw [decide_eq_decide]; omega
  · refine Ev.ite (fun h => Ev.bind awake6_ev (Ev.now _)) (fun h => ?_)
    have h : ¬ ((bs.length : Int) > 12 ∨ (behind.length : Int) > 100) := fun h' => h (decide_eq_true h')
    obtain ⟨p, hp, p0, p1⟩ := low_ev x 255 (by omega) (by omega)
    refine Ev.tell (fun _ => hp) ?_
    obtain ⟨r, hr, hE⟩ := rows_l0_ev bs p (1 + p) (by omega) (by omega) (i64w (by omega))
    refine Ev.bind hE ?_
    generalize hkd : 1 + p = kind at *
    rcases hr with rfl | ⟨hs, rfl⟩
    · exact Ev.now _
    · simp only
      have hk : 1 ≤ kind ∧ kind ≤ 255 := by omega
      have hB : ∀ b ∈ bs, Bytes b := fun b hbm => Bytes.of (hb.2 b hbm).2
      have hR := rowsOf_bytes (kind := kind) hB
      have hBe := Bytes.of hbe.2
      have hlen : (rowsOf kind bs).length ≤ 12 * 112 := by
        have h1 := (rowsOf_len (kind := kind) hs).2
        have h2 : bs.length * (100 + 12) ≤ 12 * 112 := Nat.mul_le_mul (by omega) (by omega)
        omega
      have hs' : ∀ b ∈ bs, b.length ≤ 65535 := fun b hbm => by have := hs b hbm; omega
      refine Ev.bind (frame_Count_ev _ hR (by omega)) ?_
      have c1 : countS (rowsOf kind bs) = ((bs.length : Int), ((rowsOf kind bs).length : Int)) := by
        have := countS_rows hk hs' (rest := []) rfl
        rwa [List.append_nil] at this
      rw [c1]
      refine Ev.bind (b := false) (Ev.neg (by simp) ((Ev.now _).is (by simp))) (Ev.neg (by simp) ?_)
      refine Ev.bind (frame_Next_ev behind 0 hBe (by omega) (by omega)) ?_
      refine Ev.pos (by simp; omega) (Ev.pos (by simp; omega) ?_)
      simp only [List.nil_append]
      refine Ev.bind (frame_Count_ev _ (hR.app hBe) (by simp; omega)) ?_
      refine Ev.bind (b := true) ?_ (Ev.now _)
      refine Ev.ite (fun h => Ev.bind awake6_ev (Ev.now _)) (fun h => ?_)
      have hn : nextAt behind = none := by
        cases e : nextAt behind with
        | none => rfl
        | some v =>
          exfalso
          apply h
          unfold nextS
          rw [if_pos (by omega)]
          simp [e]
      rw [countS_rows hk hs' hn]
      exact Ev.pos rfl (Ev.pos rfl (Ev.bind awake6_ev (Ev.now _)))
end Go.Proofs.Ytanogihdhnhpaaa.Pure
