/- Plain laws without a program: fuelled functions that settle, wraps of numbers in range, lists read by number. -/
import Derived.Test.YtmgkpphbehamcaaGreatDoorGgH
import Derived.Laws.Bits64
import Derived.Laws.BitsLemmas
namespace Go.Gp
open Go Go.Gg

def Ev {α : Type} (g : Nat → Option α) (r : α) : Prop := ∃ K, ∀ k, K ≤ k → g k = some r

section
variable {α β : Type} {f g : Nat → Option α} {r : α}
theorem Ev.now (r : α) : Ev (fun _ => some r) r := ⟨0, fun _ _ => rfl⟩
theorem Ev.is {r r' : α} (h : Ev f r) (e : r = r') : Ev f r' := e ▸ h
theorem Ev.rounds (h : Ev f r) : ∃ k, f k = some r := h.elim fun K h => ⟨K, h K (Nat.le_refl K)⟩
theorem Ev.congr (h : ∀ k, f k = g k) (H : Ev g r) : Ev f r := by
  obtain ⟨K, H⟩ := H
  exact ⟨K, fun k hk => (h k).trans (H k hk)⟩
theorem Ev.step (h : ∀ k, f (k + 1) = g k) (H : Ev g r) : Ev f r := by
  obtain ⟨K, H⟩ := H
  refine ⟨K + 1, fun k hk => ?_⟩
  obtain ⟨k, rfl⟩ : ∃ j, k = j + 1 := ⟨k - 1, by omega⟩
  exact (h k).trans (H k (by omega))
theorem Ev.bind {f : Nat → Option β} {g : Nat → β → Option α} {b : β} (H : Ev f b) (H' : Ev (fun k => g k b) r) : Ev (fun k => (f k).bind (g k)) r := by
  obtain ⟨K, H⟩ := H
  obtain ⟨K', H'⟩ := H'
  refine ⟨max K K', fun k hk => ?_⟩
  show (f k).bind (g k) = some r
  rw [H k (by omega)]
  exact H' k (by omega)
theorem Ev.tell {f : Nat → Option β} {g : Nat → β → Option α} {b : β} (H : ∀ k, f k = some b) (H' : Ev (fun k => g k b) r) : Ev (fun k => (f k).bind (g k)) r :=
  Ev.bind ⟨0, fun k _ => H k⟩ H'
theorem Ev.name {β : Type} {g : Nat → β → Option α} {b : β} (H : ∀ v, v = b → Ev (fun k => g k v) r) : Ev (fun k => (some b).bind (g k)) r := H b rfl
theorem Ev.pos {c : Prop} [Decidable c] (h : c) (H : Ev f r) : Ev (fun k => if c then f k else g k) r := Ev.congr (fun _ => if_pos h) H
theorem Ev.neg {c : Prop} [Decidable c] (h : ¬ c) (H : Ev g r) : Ev (fun k => if c then f k else g k) r := Ev.congr (fun _ => if_neg h) H
theorem Ev.ite {c : Prop} [Decidable c] (h : c → Ev f r) (h' : ¬ c → Ev g r) : Ev (fun k => if c then f k else g k) r := by
  by_cases e : c
  · exact Ev.pos e (h e)
  · exact Ev.neg e (h' e)
theorem Ev.count {σ : Type} {F : Nat → σ → Int → Option α} (st : Nat → σ) (n : Nat)
    (body : ∀ i, i < n → ∀ r, Ev (fun k => F k (st (i + 1)) (i + 1 : Nat)) r → Ev (fun k => F k (st i) (i : Nat)) r)
    (last : Ev (fun k => F k (st n) (n : Nat)) r) : Ev (fun k => F k (st 0) 0) r := by
  have key : ∀ d i, i + d = n → Ev (fun k => F k (st i) (i : Nat)) r := by
    intro d
    induction d with
    | zero => intro i h; obtain rfl : i = n := by omega
              exact last
    | succ d ih => intro i h; exact body i (by omega) r (ih (i + 1) (by omega))
  exact key n 0 (by omega)
theorem Ev.loop {σ : Type} {F : Nat → σ → Option α} (I : σ → Nat → Prop) (Q : α → Prop)
    (body : ∀ s n, I s n → (∃ r, Q r ∧ Ev (fun k => F k s) r) ∨ ∃ s' n', n' < n ∧ I s' n' ∧ ∀ r, Ev (fun k => F k s') r → Ev (fun k => F k s) r)
    (s : σ) (n : Nat) (h : I s n) : ∃ r, Q r ∧ Ev (fun k => F k s) r := by
  induction n using Nat.strongRecOn generalizing s with
  | ind n ih =>
    rcases body s n h with ⟨r, hq, hr⟩ | ⟨s', n', hlt, hi, hs⟩
    · exact ⟨r, hq, hr⟩
    · obtain ⟨r, hq, hr⟩ := ih n' hlt s' hi
      exact ⟨r, hq, hs r hr⟩
end

theorem i64w {x : Int} (h : -9223372036854775808 ≤ x ∧ x < 9223372036854775808) : IntKind.i64.wrap x = x := by rw [IntKind.wrap_i64]; omega
theorem getD_eq {α : Type} (xs : List α) (d : α) {i : Nat} (h : i < xs.length) : xs.getD i d = xs[i] := by simp [h]
theorem take_getD {α : Type} (xs : List α) (d : α) {i : Nat} (h : i < xs.length) : xs.take (i + 1) = xs.take i ++ [xs.getD i d] := by
  rw [List.take_succ_eq_append_getElem h, getD_eq xs d h]
theorem drop_getD {α : Type} (xs : List α) (d : α) {i : Nat} (h : i < xs.length) : xs.drop i = xs.getD i d :: xs.drop (i + 1) := by
  rw [List.drop_eq_getElem_cons h, getD_eq xs d h]
theorem getD_mem {α : Type} (xs : List α) (d : α) {i : Nat} (h : i < xs.length) : xs.getD i d ∈ xs := by
  rw [getD_eq xs d h]; exact List.getElem_mem h
theorem parts_getD {α : Type} (xs : List α) (d : α) {i : Nat} (h : i < xs.length) : xs = xs.take i ++ xs.getD i d :: xs.drop (i + 1) := by
  rw [← drop_getD xs d h, List.take_append_drop]
end Go.Gp
