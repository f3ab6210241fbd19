/- Plain laws without a program: bytes, numbers laid into bytes, strings out of bytes. -/
import Derived.Test.YtbphlohiealbeaaDoorGgP
import Derived.Test.YtbphlohiealbeaaDoorGgI
namespace Go.Gp
open Go Go.Gg
set_option linter.unusedVariables false

def Bytes (l : List Int) : Prop := ∀ x ∈ l, 0 ≤ x ∧ x < 256
theorem Bytes.of {l : List Int} (h : ∀ x ∈ l, (Lit.int .u8 x).wf = true) : Bytes l := fun x hx => wf_u8 (h x hx)
theorem Bytes.nil : Bytes [] := fun x hx => by simp at hx
theorem Bytes.left {a b : List Int} (h : Bytes (a ++ b)) : Bytes a := fun x hx => h x (List.mem_append.2 (.inl hx))
theorem Bytes.right {a b : List Int} (h : Bytes (a ++ b)) : Bytes b := fun x hx => h x (List.mem_append.2 (.inr hx))
theorem Bytes.take {a : List Int} (ha : Bytes a) (n : Nat) : Bytes (a.take n) := fun x hx => ha x (List.mem_of_mem_take hx)
theorem Bytes.drop {a : List Int} (ha : Bytes a) (n : Nat) : Bytes (a.drop n) := fun x hx => ha x (List.mem_of_mem_drop hx)
theorem getD_over {α : Type} (v : List α) (d : α) {i : Nat} (h : v.length ≤ i) : v.getD i d = d := by
  simp [List.getD_eq_getElem?_getD, List.getElem?_eq_none h]
theorem Bytes.get {a : List Int} (ha : Bytes a) (n : Nat) : 0 ≤ a.getD n 0 ∧ a.getD n 0 < 256 := by
  by_cases h : n < a.length
  · exact ha _ (getD_mem a 0 h)
  · rw [getD_over a 0 (by omega)]; omega
theorem step64 (i : Nat) (h : i < 4294967296) : IntKind.i64.wrap ((i : Int) + 1) = ((i + 1 : Nat) : Int) := by rw [i64w (by omega)]; omega
theorem getD_app_left {α : Type} (a b : List α) (d : α) {i : Nat} (h : i < a.length) : (a ++ b).getD i d = a.getD i d := by
  rw [getD_eq _ d (by simp; omega), getD_eq a d h, List.getElem_append_left h]
theorem getD_app_right {α : Type} (a b : List α) (d : α) (i : Nat) : (a ++ b).getD (a.length + i) d = b.getD i d := by
  rw [List.getD_eq_getElem?_getD, List.getElem?_append_right (by omega), Nat.add_sub_cancel_left, ← List.getD_eq_getElem?_getD]
/-- a loop that looks at each place -/
theorem Ev.all {F : Nat → Int → Option (Sum Bool Unit)} (n : Nat) (P : Nat → Prop) [DecidablePred P] (hn : n < 4294967296)
    (yes : ∀ i, i < n → P i → ∀ r, Ev (fun k => F k ((i + 1 : Nat) : Int)) r → Ev (fun k => F k (i : Int)) r) (no : ∀ i, i < n → ¬ P i → Ev (fun k => F k (i : Int)) (Sum.inl false))
    (last : Ev (fun k => F k (n : Int)) (Sum.inr ())) : Ev (fun k => F k 0) (if ∀ i, i < n → P i then Sum.inr () else Sum.inl false) := by
  have key : ∀ d i, i + d = n → (∀ j, j < i → P j) → Ev (fun k => F k (i : Int)) (if ∀ i, i < n → P i then Sum.inr () else Sum.inl false) := by
    intro d
    induction d with
    | zero => intro i h hall; obtain rfl : i = n := by omega
              rw [if_pos hall]; exact last
    | succ d ih =>
      intro i h hall
      by_cases hp : P i
      · exact yes i (by omega) hp _ (ih (i + 1) (by omega) fun j hj => if e : j = i then e ▸ hp else hall j (by omega))
      · rw [if_neg (fun H => hp (H i (by omega)))]; exact no i (by omega) hp
  exact key n 0 (by omega) (fun j hj => absurd hj (by omega))
/-! ## Numbers, the highest byte first -/
/-! ## Strings and their bytes -/
end Go.Gp
