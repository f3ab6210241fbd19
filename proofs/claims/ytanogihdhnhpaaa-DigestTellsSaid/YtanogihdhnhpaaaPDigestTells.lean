/- DigestTells: the digests and the document's digests are the same fold, so whatever the guards let in they agree. -/
import Derived.Test.YtanogihdhnhpaaaLDigestTells
import Derived.Test.YtanogihdhnhpaaaPDigest
namespace Go.Proofs.Ytanogihdhnhpaaa.Pure
open Go Go.Gg Go.Gp Gf

theorem great_ev (xs : List (List Int)) : ∃ r, Ev (fun k => grapevinelaw5_great k xs) r := by
  unfold grapevinelaw5_great
  obtain ⟨r, _, h⟩ := Ev.loop (F := fun k (s : Int) => grapevinelaw5_great_l0 xs k s) (fun s n => 0 ≤ s ∧ s + n = 21) (fun _ => True) (fun s n hI => by
    by_cases h : s < (xs.length : Int)
    · by_cases h2 : (xs.length : Int) ≤ 20
      · by_cases h3 : ((xs.getD s.toNat []).length : Int) > 200
        · refine .inl ⟨Sum.inl true, trivial, ?_⟩
          refine Ev.step (fun k => by rw [grapevinelaw5_great_l0]) ?_
          refine Ev.bind (b := true) (Ev.pos h ((Ev.now _).is (by simpa using h2))) ?_
          exact Ev.pos rfl (Ev.pos (by omega) (Ev.pos h3 (Ev.now _)))
        · refine .inr ⟨s + 1, n - 1, by omega, by omega, fun r H => ?_⟩
          refine Ev.step (fun k => by rw [grapevinelaw5_great_l0]) ?_
          refine Ev.bind (b := true) (Ev.pos h ((Ev.now _).is (by simpa using h2))) ?_
          refine Ev.pos rfl (Ev.pos (by omega) (Ev.neg h3 ?_))
          rw [i64w (by omega)]
          exact H
      · refine .inl ⟨Sum.inr (), trivial, ?_⟩
        refine Ev.step (fun k => by rw [grapevinelaw5_great_l0]) ?_
        refine Ev.bind (b := false) (Ev.pos h ((Ev.now _).is (by simpa using h2))) ?_
        exact Ev.neg (by simp) (Ev.now _)
    · refine .inl ⟨Sum.inr (), trivial, ?_⟩
      refine Ev.step (fun k => by rw [grapevinelaw5_great_l0]) ?_
      refine Ev.bind (b := false) (Ev.neg h (Ev.now _)) ?_
      exact Ev.neg (by simp) (Ev.now _)) 0 21 (by omega)
  cases r with
  | inl r => exact ⟨r, Ev.bind h (Ev.now _)⟩
  | inr r => exact ⟨_, Ev.bind h (Ev.now _)⟩

theorem DigestTells : DigestTells_Pure := by
  intro xs ds hx hd
  refine Ev.rounds ?_
  unfold grapevinelaw5_DigestTells
  obtain ⟨g, hg⟩ := great_ev xs
  refine Ev.bind (b := if g = true then true else decide ((ds.length : Int) > 60)) (Ev.bind hg ?_) ?_
  · refine Ev.ite (fun h => ?_) (fun h => ?_)
    · rw [if_pos h]; exact Ev.now _
    · rw [if_neg h]; exact Ev.now _
  · refine Ev.ite (fun h => Ev.bind awake_ev (Ev.now _)) (fun h => ?_)
    refine Ev.bind (b := true) ?_ (Ev.now _)
    have hl : (ds.length : Int) ≤ 60 := by
      cases g
      · simpa using h
      · exact absurd rfl h
    have hx' : ∀ y ∈ xs, Short y := fun y hy => (hx.2 y hy).1
    refine Ev.bind (digest_Of_ev xs hx.1 hx') ?_
    refine Ev.bind (grapevineref5_Of_ev xs hx.1 hx') ?_
    refine Ev.pos rfl ?_
    refine Ev.bind (digest_All_ev ds (by omega)) ?_
    refine Ev.bind (grapevineref5_All_ev ds (by omega)) ?_
    refine Ev.pos rfl ?_
    exact Ev.bind awake_ev (Ev.now _)
end Go.Proofs.Ytanogihdhnhpaaa.Pure
