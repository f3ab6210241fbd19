/- DigestParts: the fold does not mind how the bytes are parted, and one step tells its byte and its digest. -/
import Derived.Test.YtanogihdhnhpaaaLDigestParts
import Derived.Test.YtanogihdhnhpaaaPDigest
namespace Go.Proofs.Ytanogihdhnhpaaa.Pure
open Go Go.Gg Go.Gp Gf

theorem DigestParts : DigestParts_Pure := by
  intro xs a b c hx _ _ hc
  have hc := wf_u8 hc
  refine Ev.rounds ?_
  unfold grapevinelaw5_DigestParts
  refine Ev.ite (fun h => Ev.bind awake_ev (Ev.now _)) (fun h => ?_)
  rw [i64w (x := (xs.length : Int) + 1) (by omega)]
  obtain ⟨p, hp, p0, p1⟩ := low_ev a ((xs.length : Int) + 1) (by omega) (by omega)
  obtain ⟨q, hq, q0, q1⟩ := low_ev b ((xs.length : Int) + 1) (by omega) (by omega)
  refine Ev.tell (fun _ => hp) (Ev.tell (fun _ => hq) ?_)
  refine Ev.bind (digest_Of_ev [xs] (by simp [Short, maxLen]) (by simpa using hx.1)) ?_
  generalize hlo : (if q < p then q else p) = lo
  generalize hhi : (if q > p then q else p) = hi
  have b0 : 0 ≤ lo ∧ lo ≤ hi ∧ hi ≤ (xs.length : Int) := by
    subst lo hi
    split <;> split <;> omega
  refine Ev.pos (by omega) (Ev.pos (by omega) (Ev.pos (by omega) ?_))
  have hm : maxLen = 9223372036854775807 := rfl
  refine Ev.bind (digest_Of_ev _ (by simp [Short, maxLen]) (by simp [Short]; omega)) ?_
  have e : [(xs.take lo.toNat).drop (0 : Int).toNat, (xs.take hi.toNat).drop lo.toNat, ([] : List Int), (xs.take (xs.length : Int).toNat).drop hi.toNat].flatten = [xs].flatten := by
    have e1 : xs.take lo.toNat = (xs.take hi.toNat).take lo.toNat := by rw [List.take_take]; congr 1; omega
    simp only [List.flatten_cons, List.flatten_nil, List.append_nil, List.nil_append, Int.toNat_zero, List.drop_zero, Int.toNat_natCast, List.take_length]
    rw [← List.append_assoc]
    conv => lhs; lhs; rw [e1, List.take_append_drop]
    exact List.take_append_drop _ _
  rw [e]
  refine Ev.neg (by simp) ?_
  refine Ev.bind (b := decide ((xs.length : Int) = 0) || c == 0) ?_ ?_
  · refine Ev.ite (fun h => ?_) (fun h => ?_)
    · exact (Ev.now _).is (by simp [h])
    · exact (Ev.now _).is (by simp only [h, decide_false, Bool.false_or])
  · refine Ev.ite (fun h => Ev.bind awake_ev (Ev.now _)) (fun h2 => ?_)
    simp only [Bool.or_eq_true, decide_eq_true_eq, not_or, beq_iff_eq] at h2
    refine Ev.pos (by simp; omega) ?_
    obtain ⟨i, hi, i0, i1⟩ := low_ev p (xs.length : Int) (by omega) (by omega)
    refine Ev.tell (fun _ => hi) ?_
    simp only [List.nil_append]
    refine Ev.pos (by omega) (Ev.pos (by omega) ?_)
    refine Ev.bind (b := true) ?_ (Ev.now _)
    refine Ev.bind (digest_Of_ev _ (by simp [Short, maxLen]) (by simpa [Short] using hx.1)) ?_
    refine Ev.pos ?_ (Ev.bind awake_ev (Ev.now _))
    intro e
    have hi : i.toNat < xs.length := by omega
    have hb := wf_u8 (hx.2 _ (getD_mem xs 0 hi))
    obtain ⟨hr, hz⟩ := xor8 hb hc
    refine h2.2 (hz (fnv_set (h := fnv0) hi (by omega) (by omega) ?_))
    simpa using e
end Go.Proofs.Ytanogihdhnhpaaa.Pure
