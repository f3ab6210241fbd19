/- The plain law of TokensOnes. -/
import Derived.Test.YtjmhhmljldjmjaaDoorLTokensOnes
import Derived.Test.YtjmhhmljldjmjaaDoorPTok2
namespace Go.Proofs.YtjmhhmljldjmjaaDoor.Pure
open Go Go.Gg Go.Gp Gf
theorem Ones_loop (rs : List Int) (hr : ∀ r ∈ rs, Sc r) (hl : (enc rs).length ≤ 120) : ∀ (n i : Nat), i + n = (words rs).length → Ev (fun k => grapevinelaw1_TokensOnes_l0 (Wd rs) k (i : Int)) (Sum.inr ())
  | 0, i, hn => by
    refine Ev.step (fun k => by rw [grapevinelaw1_TokensOnes_l0]) ?_
    exact Ev.neg (by rw [Wd_length]; omega) (Ev.now _)
  | n + 1, i, hn => by
    have hi : i < (words rs).length := by omega
    have hwl : (words rs).length = (runs oth [] rs).length := by simp [words]
    have hb := runes_bound rs
    have hel := enc_length rs
    have hm := getD_mem (runs oth [] rs) [] (show i < (runs oth [] rs).length by omega)
    have hne := (runs_mem oth (P := fun _ => True) rs [] (by simp) (by simp) _ hm).1
    have hsm := run_small hm
    have hw : (words rs).getD i ⟨#[]⟩ = bs (((runs oth [] rs).getD i []).map Lib.toLowerU) := by
      rw [getD_eq _ _ hi, getD_eq _ _ (by omega)]
      simp [words]
    generalize (runs oth [] rs).getD i [] = c at hm hne hsm hw
    have hlw : (Wd rs).length = (words rs).length := Wd_length rs
    have hsz : (bs (c.map Lib.toLowerU)).size ≤ 9223372036854775807 := by
      rw [bs_size]
      have := enc_length4 (c.map Lib.toLowerU)
      have := enc_length c
      simp at *
      omega
    have hn2 : ¬ ((bs (c.map Lib.toLowerU)).toList == (⟨#[]⟩ : ByteArray).toList) = true := by
      intro e
      have := (toList_inj _ _).1 (eq_of_beq e)
      have e2 : enc (c.map Lib.toLowerU) = [] := by
        rw [← bs_toList, this]
      rw [enc_eq_nil] at e2
      simp at e2
      exact hne e2
    refine Ev.step (fun k => by rw [grapevinelaw1_TokensOnes_l0]) ?_
    refine Ev.pos (by omega) ?_
    rw [show ((i : Nat) : Int).toNat = i by omega, Wd_get rs hi, hw]
    refine Ev.bind (b := false) ?_ ?_
    · refine Ev.pos (by omega) (Ev.neg hn2 (Ev.pos (by omega) ?_))
      rw [valid_eq hsz, bs_valid]
      refine Ev.name fun v hv => ?_
      refine Ev.neg (by rw [hv]; simp) (Ev.pos (by omega) ?_)
      exact (Ev.now _).is (by simp)
    · refine Ev.neg (by simp) ?_
      rw [i64w (by omega), show ((i : Nat) : Int) + 1 = ((i + 1 : Nat) : Int) by omega]
      exact Ones_loop rs hr hl n (i + 1) (by omega)
theorem TokensOnes : TokensOnes_Pure := by
  intro a0 hs0
  have hs : a0.size ≤ 9223372036854775807 := Nat.le_trans hs0 (by decide)
  apply Ev.rounds
  unfold grapevinelaw1_TokensOnes
  rw [May_eq hs]
  cases h : (decide (a0.size ≤ 120) && Lib.validD a0.data.toList)
  · refine Ev.bind (b := true) ?_ ?_
    · refine Ev.name fun v hv => ?_
      exact Ev.pos (by rw [hv]; simp) (Ev.now _)
    · exact Ev.pos rfl (Ev.bind awake_ev (Ev.now _))
  · simp only [Bool.and_eq_true, decide_eq_true_eq] at h
    obtain ⟨rs, hr, rfl⟩ := valid_bs h.2
    have h1 := h.1
    rw [bs_size] at h1
    refine Ev.bind (b := false) ?_ ?_
    · refine Ev.name fun v hv => ?_
      refine Ev.neg (by rw [hv]; simp) ((Ev.now _).is ?_)
      rw [decide_eq_false (by omega)]
    · refine Ev.neg (by simp) ?_
      refine Ev.bind (Of_ev hs) ?_
      rw [OfD_bs rs hr h1]
      refine Ev.bind (Ones_loop rs hr h1 (words rs).length 0 (by simp)) ?_
      rw [One_ev hs]
      refine Ev.name fun v hv => ?_
      refine Ev.ite (fun ht => ?_) (fun _ => Ev.bind awake_ev (Ev.now _))
      rw [ht] at hv
      unfold oneD at hv
      rw [runesOf_bs rs hr, bs_valid] at hv
      have hv := hv.symm
      simp only [Bool.true_and, Bool.and_eq_true, decide_eq_true_eq, List.all_eq_true] at hv
      have hw : runs oth [] rs = [rs] := runs_whole oth rs [] (fun r hr' => by simpa using hv.2 r hr') (by simpa using hv.1)
      have hW : Wd rs = [⟨bs (rs.map Lib.toLowerU), 0⟩] := by simp [Wd, words, hw]
      rw [hW]
      refine Ev.bind (b := true) ?_ (Ev.now _)
      refine Ev.pos (by simp) (Ev.pos (by simp) ?_)
      rw [Norm_eq (by omega), normD_bs rs hr]
      refine Ev.name fun w hw' => ?_
      refine Ev.pos (by rw [hw']; simp) ?_
      exact Ev.bind awake_ev (Ev.now _)
end Go.Proofs.YtjmhhmljldjmjaaDoor.Pure
