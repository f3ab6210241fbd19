/- DigestZero: of nothing but zeros the digest of digests is zero, and with one that is none it is the digest of all their bytes. -/
import Derived.Test.YtanogihdhnhpaaaLDigestZero
import Derived.Test.YtanogihdhnhpaaaPDigest
namespace Go.Proofs.Ytanogihdhnhpaaa.Pure
open Go Go.Gg Go.Gp Gf

theorem zero_l1_ev (xs : List Int) (c t q : Int) (hxs : (List.replicate (IntKind.i64.wrap (1 + t)).toNat (0 : Int)).set q.toNat c = xs) (i : Int) (hi : 0 ≤ i ∧ i < (xs.length : Int)) (b : List Int) (hb : b.length + 8 ≤ 1073741824) :
    Ev (fun k => grapevinelaw5_DigestZero_l1 c t q i k b 7) (b ++ be8 (xs.getD i.toNat 0)) := by
  generalize hx : xs.getD i.toNat 0 = x
  have one : ∀ (d : List Int) (p p' s : Int) (r : List Int) (_ : 0 ≤ p) (_ : p ≤ 7) (_ : p' = p - 1) (_ : s = 8 * p) (_ : d.length < 1073741824), Ev (fun k => grapevinelaw5_DigestZero_l1 c t q i k (d ++ [IntKind.u8.wrap (shrK .u64 x s)]) p') r → Ev (fun k => grapevinelaw5_DigestZero_l1 c t q i k d p) r := by
    intro d p p' s r h0 h1 hq hs hc H
    refine Ev.step (fun k => by rw [grapevinelaw5_DigestZero_l1, hxs, hx, i64w (x := 8 * p) (by omega), i64w (x := p - 1) (by omega), ← hs]) ?_
    refine Ev.pos h0 (Ev.pos hi (Ev.pos (by omega) (Ev.pos (by simp; omega) ?_)))
    rw [← hq]
    exact H
  refine one b 7 6 56 _ (by omega) (by omega) (by omega) (by omega) (by omega) ?_
  refine one _ 6 5 48 _ (by omega) (by omega) (by omega) (by omega) (by simp; omega) ?_
  refine one _ 5 4 40 _ (by omega) (by omega) (by omega) (by omega) (by simp; omega) ?_
  refine one _ 4 3 32 _ (by omega) (by omega) (by omega) (by omega) (by simp; omega) ?_
  refine one _ 3 2 24 _ (by omega) (by omega) (by omega) (by omega) (by simp; omega) ?_
  refine one _ 2 1 16 _ (by omega) (by omega) (by omega) (by omega) (by simp; omega) ?_
  refine one _ 1 0 8 _ (by omega) (by omega) (by omega) (by omega) (by simp; omega) ?_
  refine one _ 0 (-1) 0 _ (by omega) (by omega) (by omega) (by omega) (by simp; omega) ?_
  refine Ev.step (fun k => by rw [grapevinelaw5_DigestZero_l1]) ?_
  refine Ev.neg (by omega) ?_
  simpa [be8] using Ev.now _

theorem zero_l0_ev (xs : List Int) (c t q : Int) (hxs : (List.replicate (IntKind.i64.wrap (1 + t)).toNat (0 : Int)).set q.toNat c = xs) (ht : IntKind.i64.wrap (1 + t) = (xs.length : Int)) (hl : xs.length ≤ 40) :
    Ev (fun k => grapevinelaw5_DigestZero_l0 c t q k [] 0) (be8s xs) := by
  have key := Ev.count (F := fun k s j => grapevinelaw5_DigestZero_l0 c t q k s j) (r := be8s xs) (fun j => be8s (xs.take j)) xs.length ?_ ?_
  · exact key
  · intro j hj r H
    refine Ev.step (fun k => by rw [grapevinelaw5_DigestZero_l0]) ?_
    refine Ev.pos (by omega) ?_
    refine Ev.bind (zero_l1_ev xs c t q hxs j (by omega) _ (by rw [len_be8s, List.length_take]; omega)) ?_
    rw [i64w (by omega)]
    simp only [be8s_take xs hj] at H
    simpa using H
  · refine Ev.step (fun k => by rw [grapevinelaw5_DigestZero_l0]) ?_
    refine Ev.neg (by omega) ?_
    simpa using Ev.now _

theorem DigestZero : DigestZero_Pure := by
  intro a b c _ _ _
  refine Ev.rounds ?_
  unfold grapevinelaw5_DigestZero
  obtain ⟨m, hm, m0, m1⟩ := low_ev a 40 (by omega) (by omega)
  have hw : IntKind.i64.wrap (1 + m) = 1 + m := i64w (by omega)
  obtain ⟨q, hq, q0, q1⟩ := low_ev b (1 + m) (by omega) (by omega)
  refine Ev.tell (fun _ => hm) (Ev.tell (fun _ => by rw [hw]; exact hq) ?_)
  obtain ⟨N, hN⟩ : ∃ N : Nat, 1 + m = (N : Int) := ⟨(1 + m).toNat, by omega⟩
  have hN' : (IntKind.i64.wrap (1 + m)).toNat = N := by omega
  rw [hN', hw]
  refine Ev.pos (by omega) ?_
  have hz : someB (List.replicate N (0 : Int)) = false := by simp [someB]
  have za : Ev (fun k => digest_All k (List.replicate N 0)) 0 := by
    have h := digest_All_ev (List.replicate N 0) (by simp; omega)
    rwa [hz] at h
  refine Ev.bind (b := c == 0) (Ev.bind za (Ev.neg (by simp) (Ev.now _))) ?_
  refine Ev.ite (fun h => ?_) (fun h => ?_)
  · exact Ev.bind (Ev.bind za (Ev.pos rfl (Ev.bind awake_ev (Ev.now _)))) (Ev.now _)
  · refine Ev.pos (by simp; omega) ?_
    have hxs : (List.replicate (IntKind.i64.wrap (1 + m)).toNat (0 : Int)).set q.toNat c = (List.replicate N (0 : Int)).set q.toNat c := by rw [hN']
    refine Ev.bind (zero_l0_ev _ c m q hxs (by simp; omega) (by simp; omega)) ?_
    refine Ev.bind (b := true) ?_ (Ev.now _)
    have hs : someB ((List.replicate N (0 : Int)).set q.toNat c) = true := by
      have hl : q.toNat < N := by omega
      simp only [someB, List.any_eq_true]
      exact ⟨c, List.mem_iff_getElem.2 ⟨q.toNat, by simpa using hl, by simp⟩, by simpa using h⟩
    have za := digest_All_ev ((List.replicate N (0 : Int)).set q.toNat c) (by simp; omega)
    rw [if_pos hs] at za
    refine Ev.bind za ?_
    refine Ev.bind (digest_Of_ev _ (by simp [Short, maxLen]) (by simp [Short, maxLen, len_be8s]; omega)) ?_
    exact Ev.pos (by simp) (Ev.bind awake_ev (Ev.now _))
end Go.Proofs.Ytanogihdhnhpaaa.Pure
