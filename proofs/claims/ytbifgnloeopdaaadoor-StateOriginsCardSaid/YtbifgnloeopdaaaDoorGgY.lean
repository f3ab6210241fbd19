/- Plain laws of ranges over maps that are known as functions. -/
import Derived.Test.YtbifgnloeopdaaaDoorGgP
import Derived.Test.YtbifgnloeopdaaaDoorGgW
namespace Go.Gp
open Go Go.Gg
section
variable {κ ν α σ : Type} [DecidableEq κ] {r : α}
theorem Ev.pickF {f : κ → Option ν} {ks : List κ} (hf : ∀ a v, f a = some v → a ∈ ks) {seen : List κ} {over : Nat → Option α} {g : Nat → κ → ν → Option α}
  (h1 : (∀ a v, f a = some v → a ∈ seen) → Ev over r) (h2 : ∀ a v, f a = some v → a ∉ seen → Ev (fun k => g k a v) r) : Ev (fun k => pickF f seen (over k) (g k)) r := by
 have key : ∀ l : List κ, ∃ K, ∀ a ∈ l, ∀ v, f a = some v → a ∉ seen → ∀ k, K ≤ k → g k a v = some r := by
  intro l
  induction l with
  | nil => exact ⟨0, fun a ha => by cases ha⟩
  | cons b l ih =>
   obtain ⟨K, hK⟩ := ih; obtain ⟨K', hK'⟩ : ∃ K', ∀ v, f b = some v → b ∉ seen → ∀ k, K' ≤ k → g k b v = some r := by
    cases hb : f b with
    | none => exact ⟨0, fun v hv => by cases hv⟩
    | some v =>
     by_cases hs : b ∈ seen
     ·exact ⟨0, fun _ _ hn => absurd hs hn⟩
     ·obtain ⟨K', h⟩ := h2 b v hb hs; exact ⟨K', fun v' hv' _ k hk => by cases hv'; exact h k hk⟩
   refine ⟨max K K', fun a ha v hv hn k hk => ?_⟩; rcases List.mem_cons.1 ha with rfl | ha
   ·exact hK' v hv hn k (by omega)
   ·exact hK a ha v hv hn k (by omega)
 obtain ⟨K, hK⟩ := key ks; by_cases ho : ∀ a v, f a = some v → a ∈ seen
 ·obtain ⟨K', h⟩ := h1 ho; exact ⟨max K K', fun k hk => pickF_all (fun _ => h k (by omega)) fun a v hv hn => hK a (hf a v hv) v hv hn k (by omega)⟩
 ·exact ⟨K, fun k hk => pickF_all (fun h => absurd h ho) fun a v hv hn => hK a (hf a v hv) v hv hn k hk⟩
theorem unseen_lt {ks seen : List κ} {a : κ} (ha : a ∈ ks) (hn : a ∉ seen) : (ks.filter fun x => decide (x ∉ a :: seen)).length < (ks.filter fun x => decide (x ∉ seen)).length := by
 induction ks with
 | nil => cases ha
 | cons b l ih =>
  have hle : (l.filter fun x => decide (x ∉ a :: seen)).length ≤ (l.filter fun x => decide (x ∉ seen)).length := by
   clear ih ha
   induction l with
   | nil => exact Nat.le_refl _
   | cons c l ih =>
    simp only [List.filter_cons]; by_cases h1 : c ∉ a :: seen
    ·have h2 : c ∉ seen := fun h => h1 (List.mem_cons_of_mem _ h)
     rw [if_pos (decide_eq_true h1), if_pos (decide_eq_true h2)]; simp only [List.length_cons]; omega
    ·rw [if_neg (fun h => h1 (of_decide_eq_true h))]; split <;> (try simp only [List.length_cons]) <;> omega
  simp only [List.filter_cons]; rcases List.mem_cons.1 ha with rfl | ha
  ·rw [if_neg (by simp), if_pos (decide_eq_true hn)]; simp only [List.length_cons]; omega
  ·have := ih ha; by_cases h1 : b ∉ a :: seen
   ·have h2 : b ∉ seen := fun h => h1 (List.mem_cons_of_mem _ h)
    rw [if_pos (decide_eq_true h1), if_pos (decide_eq_true h2)]; simp only [List.length_cons]; omega
   ·rw [if_neg (fun h => h1 (of_decide_eq_true h))]; split <;> (try simp only [List.length_cons]) <;> omega
theorem Ev.range {F : Nat → σ → List κ → Option α} (ks : List κ) (I : σ → List κ → Prop)
  (body : ∀ s seen, I s seen → (∀ s' a, a ∈ ks → a ∉ seen → I s' (a :: seen) → Ev (fun k => F k s' (a :: seen)) r) → Ev (fun k => F k s seen) r) (s : σ) (seen : List κ) (h : I s seen) : Ev (fun k => F k s seen) r := by
 obtain ⟨n, hn⟩ : ∃ n, n = (ks.filter fun x => decide (x ∉ seen)).length := ⟨_, rfl⟩
 induction n using Nat.strongRecOn generalizing s seen with
 | ind n ih =>
  refine body s seen h fun s' a ha hs hI => ih _ ?_ s' (a :: seen) hI rfl
  rw [hn]; exact unseen_lt ha hs
end
end Go.Gp
