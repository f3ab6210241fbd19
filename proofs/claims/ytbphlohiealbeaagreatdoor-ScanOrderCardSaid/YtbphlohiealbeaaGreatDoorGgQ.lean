/- Plain laws without a program: bytes, numbers laid into bytes, strings out of bytes. -/
import Derived.Test.YtbphlohiealbeaaGreatDoorGgP
import Derived.Test.YtbphlohiealbeaaGreatDoorGgI
namespace Go.Gp
open Go Go.Gg
set_option linter.unusedVariables false

def Bytes (l : List Int) : Prop := ∀ x ∈ l, 0 ≤ x ∧ x < 256
theorem Bytes.of {l : List Int} (h : ∀ x ∈ l, (Lit.int .u8 x).wf = true) : Bytes l := fun x hx => wf_u8 (h x hx)
theorem Bytes.nil : Bytes [] := fun x hx => by simp at hx
theorem Bytes.app {a b : List Int} (ha : Bytes a) (hb : Bytes b) : Bytes (a ++ b) := fun x hx => (List.mem_append.1 hx).elim (ha x) (hb x)
theorem Bytes.left {a b : List Int} (h : Bytes (a ++ b)) : Bytes a := fun x hx => h x (List.mem_append.2 (.inl hx))
theorem Bytes.right {a b : List Int} (h : Bytes (a ++ b)) : Bytes b := fun x hx => h x (List.mem_append.2 (.inr hx))
theorem Bytes.take {a : List Int} (ha : Bytes a) (n : Nat) : Bytes (a.take n) := fun x hx => ha x (List.mem_of_mem_take hx)
theorem Bytes.drop {a : List Int} (ha : Bytes a) (n : Nat) : Bytes (a.drop n) := fun x hx => ha x (List.mem_of_mem_drop hx)
theorem getD_over {α : Type} (v : List α) (d : α) {i : Nat} (h : v.length ≤ i) : v.getD i d = d := by
  simp [List.getD_eq_getElem?_getD, List.getElem?_eq_none h]
theorem Bytes.get {a : List Int} (ha : Bytes a) (n : Nat) : 0 ≤ a.getD n 0 ∧ a.getD n 0 < 256 := by
  by_cases h : n < a.length
  · exact ha _ (getD_mem a 0 h)
  · rw [getD_over a 0 (by omega)]; omega
theorem list_ext_getD {a b : List Int} (hl : a.length = b.length) (h : ∀ i, i < a.length → a.getD i 0 = b.getD i 0) : a = b := by
  apply List.ext_getElem hl
  intro i h1 h2
  have := h i h1
  rwa [getD_eq a 0 h1, getD_eq b 0 h2] at this
theorem least {P : Nat → Prop} (h : ∃ n, P n) : ∃ n, P n ∧ ∀ j, j < n → ¬ P j := by
  obtain ⟨n, hn⟩ := h
  induction n using Nat.strongRecOn with
  | ind n ih =>
    by_cases e : ∃ j, j < n ∧ P j
    · obtain ⟨j, hj, hp⟩ := e; exact ih j hj hp
    · exact ⟨n, hn, fun j hj hp => e ⟨j, hj, hp⟩⟩
theorem step64 (i : Nat) (h : i < 4294967296) : IntKind.i64.wrap ((i : Int) + 1) = ((i + 1 : Nat) : Int) := by rw [i64w (by omega)]; omega
theorem getD_app_left {α : Type} (a b : List α) (d : α) {i : Nat} (h : i < a.length) : (a ++ b).getD i d = a.getD i d := by
  rw [getD_eq _ d (by simp; omega), getD_eq a d h, List.getElem_append_left h]
theorem getD_app_right {α : Type} (a b : List α) (d : α) (i : Nat) : (a ++ b).getD (a.length + i) d = b.getD i d := by
  rw [List.getD_eq_getElem?_getD, List.getElem?_append_right (by omega), Nat.add_sub_cancel_left, ← List.getD_eq_getElem?_getD]
theorem getD_drop {α : Type} (a : List α) (d : α) (n i : Nat) : (a.drop n).getD i d = a.getD (n + i) d := by
  rw [List.getD_eq_getElem?_getD, List.getElem?_drop, ← List.getD_eq_getElem?_getD]
theorem getD_take {α : Type} (a : List α) (d : α) {n i : Nat} (h : i < n) : (a.take n).getD i d = a.getD i d := by
  rw [List.getD_eq_getElem?_getD, List.getElem?_take_of_lt h, ← List.getD_eq_getElem?_getD]

/-- a loop that looks at each place -/
theorem Ev.all {F : Nat → Int → Option (Sum Bool Unit)} (n : Nat) (P : Nat → Prop) [DecidablePred P] (hn : n < 4294967296)
    (yes : ∀ i, i < n → P i → ∀ r, Ev (fun k => F k ((i + 1 : Nat) : Int)) r → Ev (fun k => F k (i : Int)) r) (no : ∀ i, i < n → ¬ P i → Ev (fun k => F k (i : Int)) (Sum.inl false))
    (last : Ev (fun k => F k (n : Int)) (Sum.inr ())) : Ev (fun k => F k 0) (if ∀ i, i < n → P i then Sum.inr () else Sum.inl false) := by
  have key : ∀ d i, i + d = n → (∀ j, j < i → P j) → Ev (fun k => F k (i : Int)) (if ∀ i, i < n → P i then Sum.inr () else Sum.inl false) := by
    intro d
    induction d with
    | zero => intro i h hall; obtain rfl : i = n := by omega
              rw [if_pos hall]; exact last
    | succ d ih =>
      intro i h hall
      by_cases hp : P i
      · exact yes i (by omega) hp _ (ih (i + 1) (by omega) fun j hj => if e : j = i then e ▸ hp else hall j (by omega))
      · rw [if_neg (fun H => hp (H i (by omega)))]; exact no i (by omega) hp
  exact key n 0 (by omega) (fun j hj => absurd hj (by omega))
/-- and what is told behind it -/
theorem Ev.all' {F : Nat → Int → Option (Sum Bool Unit)} {g : Nat → Sum Bool Unit → Option Bool} (n : Nat) (P : Nat → Prop) [DecidablePred P] (hn : n < 4294967296)
    (yes : ∀ i, i < n → P i → ∀ r, Ev (fun k => F k ((i + 1 : Nat) : Int)) r → Ev (fun k => F k (i : Int)) r) (no : ∀ i, i < n → ¬ P i → Ev (fun k => F k (i : Int)) (Sum.inl false))
    (last : Ev (fun k => F k (n : Int)) (Sum.inr ())) (h1 : ∀ k, g k (Sum.inl false) = some false) (h2 : ∀ k, g k (Sum.inr ()) = some true) : Ev (fun k => (F k 0).bind (g k)) (decide (∀ i, i < n → P i)) := by
  refine Ev.bind (Ev.all n P hn yes no last) ?_
  by_cases h : ∀ i, i < n → P i
  · rw [if_pos h, decide_eq_true h]; exact Ev.congr h2 (Ev.now _)
  · rw [if_neg h, decide_eq_false h]; exact Ev.congr h1 (Ev.now _)

/-! ## Numbers, the highest byte first -/
def be (n : Nat) : Nat → List Int
  | 0 => []
  | s + 1 => ((n / 256 ^ s % 256 : Nat) : Int) :: be n s
theorem len_be (n : Nat) : ∀ s, (be n s).length = s
  | 0 => rfl
  | s + 1 => by simp [be, len_be n s]
theorem be_bytes (n : Nat) : ∀ s, Bytes (be n s)
  | 0 => Bytes.nil
  | s + 1 => fun x hx => by
    rcases List.mem_cons.1 hx with rfl | hx
    · omega
    · exact be_bytes n s x hx
def numF (a : Int) (l : List Int) : Int := l.foldl (fun a x => 256 * a + x) a
def num (l : List Int) : Int := numF 0 l
theorem numF_be (n : Nat) : ∀ (s : Nat) (a : Nat), numF a (be n s) = ((a * 256 ^ s + n % 256 ^ s : Nat) : Int)
  | 0, a => by simp [be, numF, Nat.mod_one]
  | s + 1, a => by
    have := numF_be n s (256 * a + n / 256 ^ s % 256)
    simp only [be, numF, List.foldl_cons]
    rw [show (256 * (a : Int) + ((n / 256 ^ s % 256 : Nat) : Int)) = ((256 * a + n / 256 ^ s % 256 : Nat) : Int) by omega]
    show numF _ _ = _
    rw [this]
    congr 1
    rw [Nat.pow_succ, Nat.mod_mul, Nat.add_mul, Nat.mul_comm (256 ^ s) 256, ← Nat.mul_assoc, Nat.mul_comm a 256]
    rw [Nat.mul_comm (n / 256 ^ s % 256)]
    omega
theorem num_be {n s : Nat} (h : n < 256 ^ s) : num (be n s) = (n : Int) := by
  have := numF_be n s 0
  rw [Nat.zero_mul, Nat.zero_add, Nat.mod_eq_of_lt h] at this
  exact this
theorem num_take (l : List Int) {i : Nat} (h : i < l.length) : num (l.take (i + 1)) = 256 * num (l.take i) + l.getD i 0 := by
  rw [take_getD l 0 h]; simp [num, numF, List.foldl_append]
theorem num_bound {l : List Int} (h : Bytes l) : ∀ i, i ≤ l.length → 0 ≤ num (l.take i) ∧ num (l.take i) < ((256 ^ i : Nat) : Int)
  | 0, _ => by simp [num, numF]
  | i + 1, hi => by
    have := num_bound h i (by omega)
    have hb := h.get i
    rw [num_take l (by omega), Nat.pow_succ]
    omega
theorem shr_i64 (n i : Nat) (h : 8 * i ≤ 64) : shrK .i64 (n : Int) ((8 * i : Nat) : Int) = ((n / 256 ^ i : Nat) : Int) := by
  unfold shrK
  rw [show min (((8 * i : Nat) : Int)).toNat IntKind.i64.bits = 8 * i by simp [IntKind.bits]; omega]
  have e : (2 : Int) ^ (8 * i) = ((256 ^ i : Nat) : Int) := by rw [Int.pow_mul, Int.natCast_pow]; rfl
  rw [e, Int.fdiv_eq_ediv_of_nonneg _ (by exact_mod_cast Nat.zero_le _)]
  rfl
theorem byte_of (n : Nat) : IntKind.u8.wrap (n : Int) = ((n % 256 : Nat) : Int) := by rw [wrap_u8]; omega
theorem byte_id {x : Int} (h : 0 ≤ x ∧ x < 256) : IntKind.i64.wrap x = x := i64w (by omega)

/-! ## Strings and their bytes -/
theorem len_bytesOf (s : ByteArray) : (bytesOf s).length = s.size := by unfold bytesOf; rw [List.length_map]; rfl
theorem bytesOf_bytes (s : ByteArray) : Bytes (bytesOf s) := fun x hx => by
  obtain ⟨b, _, rfl⟩ := List.mem_map.1 hx
  have := b.toNat_lt
  omega
theorem strOfNums_bytesOf (s : ByteArray) : strOfNums (bytesOf s) = s := by
  unfold strOfNums bytesOf
  apply ByteArray.ext
  simp [List.map_map, Function.comp_def]
theorem bytesOf_strOfNums {l : List Int} (h : Bytes l) : bytesOf (strOfNums l) = l := by
  unfold strOfNums bytesOf
  simp only [List.map_map, Function.comp_def]
  conv => rhs; rw [← List.map_id l]
  refine List.map_congr_left fun x hx => ?_
  have := h x hx
  simp only [id, UInt8.toNat_ofNat']
  omega
theorem size_strOfNums (l : List Int) : (strOfNums l).size = l.length := by simp [strOfNums, ByteArray.size]
theorem bytesOf_inj {a b : ByteArray} (h : bytesOf a = bytesOf b) : a = b := by
  rw [← strOfNums_bytesOf a, ← strOfNums_bytesOf b, h]
end Go.Gp
