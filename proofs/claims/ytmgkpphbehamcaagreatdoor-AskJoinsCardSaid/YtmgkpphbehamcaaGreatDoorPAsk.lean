
import Derived.Test.YtmgkpphbehamcaaGreatDoorF0
import Derived.Test.YtmgkpphbehamcaaGreatDoorPTok
namespace Go.Gp
open Go Go.Gg
theorem Ev.shift {α : Type} {f : Nat → Option α} {r : α} (h : Ev f r) : Ev (fun k => f (k + 1)) r := by
 obtain ⟨K, h⟩ := h; exact ⟨K, fun k hk => h (k + 1) (by omega)⟩
end Go.Gp
namespace Go.Proofs.YtmgkpphbehamcaaGreatDoor.Pure
open Go Go.Gg Go.Gp Gf
set_option linter.unusedVariables false
set_option linter.unusedSimpArgs false
def cntN : Nat → T26 → Int
 | 0, _ => 0
 | d + 1, x => 1 + (x.f3.map (cntN d)).sum
def SmallN : Nat → T26 → Prop
 | 0, _ => False
 | d + 1, x => x.f2.length ≤ 300 ∧ (∀ w ∈ x.f2, w.size ≤ 5000) ∧ x.f3.length ≤ 1000 ∧ ∀ s ∈ x.f3, SmallN d s
theorem cntN_pos : ∀ (d : Nat) (x : T26), 0 ≤ cntN d x
 | 0, x => by simp [cntN]
 | d + 1, x => by
  have key : ∀ l : List T26, 0 ≤ (l.map (cntN d)).sum := by
   intro l
   induction l with
   | nil => simp
   | cons y t ih => have := cntN_pos d y; simp; omega
  have := key x.f3; simp only [cntN]; omega
theorem sum_pos (d : Nat) (l : List T26) : 0 ≤ (l.map (cntN d)).sum := by
 induction l with
 | nil => simp
 | cons y t ih => have := cntN_pos d y; simp; omega
theorem sum_len (d : Nat) : ∀ (l : List T26), (∀ x ∈ l, SmallN d x) → (l.length : Int) ≤ (l.map (cntN d)).sum
 | [], _ => by simp
 | y :: t, h => by
  have h1 := sum_len d t (fun x hx => h x (by simp [hx])); have h2 : 1 ≤ cntN d y := by
   cases d with
   | zero => exact (h y (by simp)).elim
   | succ d => have := sum_pos d y.f3; simp only [cntN]; omega
  simp only [List.length_cons, List.map_cons, List.sum_cons]; omega
end Go.Proofs.YtmgkpphbehamcaaGreatDoor.Pure
