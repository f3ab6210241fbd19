/- Lists sorted, merged, and cut off: no program in sight. -/
import Derived.Test.YtbphlohiealbeaaGreatDoorGgS
namespace Go.Gp
set_option linter.unusedVariables false
set_option linter.unusedSimpArgs false
variable {α : Type} {lt : α → α → Bool}
/-- two sorted lists as one; of the same ones the first list's come first -/
def mrg (lt : α → α → Bool) : List α → List α → List α
  | [], bs => bs
  | a :: as, [] => a :: as
  | a :: as, b :: bs => if lt b a then b :: mrg lt (a :: as) bs else a :: mrg lt as (b :: bs)
termination_by as bs => as.length + bs.length
theorem mrg_nil (as : List α) : mrg lt as [] = as := by cases as <;> simp [mrg]
theorem mrg_len : ∀ (as bs : List α), (mrg lt as bs).length = as.length + bs.length
  | [], bs => by simp [mrg]
  | a :: as, [] => by simp [mrg]
  | a :: as, b :: bs => by
    rw [mrg]
    split
    · rw [List.length_cons, mrg_len (a :: as) bs]; simp only [List.length_cons]; omega
    · rw [List.length_cons, mrg_len as (b :: bs)]; simp only [List.length_cons]; omega
termination_by as bs => as.length + bs.length
theorem mrg_mem {x : α} : ∀ (as bs : List α), x ∈ mrg lt as bs → x ∈ as ∨ x ∈ bs
  | [], bs, h => by simp [mrg] at h; exact .inr h
  | a :: as, [], h => by rw [mrg_nil] at h; exact .inl h
  | a :: as, b :: bs, h => by
    rw [mrg] at h
    split at h
    · rcases List.mem_cons.1 h with rfl | h
      · exact .inr (by simp)
      · rcases mrg_mem (a :: as) bs h with h | h
        · exact .inl h
        · exact .inr (by simp [h])
    · rcases List.mem_cons.1 h with rfl | h
      · exact .inl (by simp)
      · rcases mrg_mem as (b :: bs) h with h | h
        · exact .inl (by simp [h])
        · exact .inr h
termination_by as bs => as.length + bs.length
theorem mrg_srt (hw : SWO lt) : ∀ (as bs : List α), Srt lt as → Srt lt bs → Srt lt (mrg lt as bs)
  | [], bs, _, h => by simpa [mrg] using h
  | a :: as, [], h, _ => by rw [mrg_nil]; exact h
  | a :: as, b :: bs, h1, h2 => by
    obtain ⟨p1, q1⟩ := List.pairwise_cons.1 h1
    obtain ⟨p2, q2⟩ := List.pairwise_cons.1 h2
    rw [mrg]
    split
    · rename_i c
      refine List.pairwise_cons.2 ⟨fun x hx => ?_, mrg_srt hw (a :: as) bs h1 q2⟩
      rcases mrg_mem _ _ hx with hx | hx
      · rcases List.mem_cons.1 hx with rfl | hx
        · exact hw.asym c
        · exact hw.ntr (hw.asym c) (p1 x hx)
      · exact p2 x hx
    · rename_i c
      have c : lt b a = false := by simpa using c
      refine List.pairwise_cons.2 ⟨fun x hx => ?_, mrg_srt hw as (b :: bs) q1 h2⟩
      rcases mrg_mem _ _ hx with hx | hx
      · exact p1 x hx
      · rcases List.mem_cons.1 hx with rfl | hx
        · exact c
        · exact hw.ntr c (p2 x hx)
termination_by as bs => as.length + bs.length
theorem mrg_se (hw : SWO lt) : ∀ (as bs : List α), Srt lt as → Srt lt bs → SE lt (as ++ bs) (mrg lt as bs)
  | [], bs, _, _ => by simp only [mrg, List.nil_append]; exact SE.refl _
  | a :: as, [], _, _ => by rw [mrg_nil, List.append_nil]; exact SE.refl _
  | a :: as, b :: bs, h1, h2 => by
    obtain ⟨p1, q1⟩ := List.pairwise_cons.1 h1
    obtain ⟨p2, q2⟩ := List.pairwise_cons.1 h2
    rw [mrg]
    split
    · rename_i c
      have e1 : SE lt ((a :: as) ++ [b]) ([b] ++ (a :: as)) := SE.swap hw fun x hx y hy => by
        have hy : y = b := by simpa using hy
        subst hy
        rcases List.mem_cons.1 hx with rfl | hx
        · exact c
        · cases e : lt y x with
          | true => rfl
          | false => have := hw.ntr (p1 x hx) e; rw [this] at c; cases c
      have e2 := mrg_se hw (a :: as) bs h1 q2
      have e3 : SE lt ((a :: as) ++ (b :: bs)) ([b] ++ ((a :: as) ++ bs)) := by
        have := SE.append e1 (SE.refl (lt := lt) bs)
        simpa using this
      exact e3.trans (SE.append (SE.refl [b]) e2)
    · exact SE.append (SE.refl [a]) (mrg_se hw as (b :: bs) q1 h2)
termination_by as bs => as.length + bs.length
theorem mrg_take : ∀ (n : Nat) (as bs : List α), (mrg lt as bs).take n = (mrg lt (as.take n) (bs.take n)).take n
  | 0, as, bs => by simp
  | n + 1, [], bs => by simp [mrg, List.take_take]
  | n + 1, a :: as, [] => by simp [mrg_nil, List.take_take]
  | n + 1, a :: as, b :: bs => by
    rw [List.take_succ_cons, List.take_succ_cons, mrg, mrg]
    split
    · rw [List.take_succ_cons, List.take_succ_cons, mrg_take n (a :: as) bs, mrg_take n (a :: as.take n) (bs.take n)]
      congr 2
      cases n with
      | zero => simp
      | succ n => simp [List.take_take]
    · rw [List.take_succ_cons, List.take_succ_cons, mrg_take n as (b :: bs), mrg_take n (as.take n) (b :: bs.take n)]
      congr 2
      cases n with
      | zero => simp
      | succ n => simp [List.take_take]
end Go.Gp
