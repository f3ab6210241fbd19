/- From a row's reading of its arguments to what the walks ask, and back. Nothing of any one program is said here. -/
import Derived.Test.YtmgkpphbehamcaaGreatDoorGgI
import Derived.WalkKit
import Derived.ProofKit
import Derived.OpenShut
import Derived.ShutString
import Derived.ChangeOld
import Derived.SizedLaws
import Derived.Deep.Slices
namespace Go.Gg
variable {P : Program} {α β : Type}
def heapG (W : World) : GMap := fun b => W.heap[b]?
theorem Inv.start (W : World) : Inv W (heapG W) [] W := ⟨rfl, rfl, rfl, fun _ _ h => h, by simp, by simp, by simp⟩
theorem Inv.below {W W' : World} {Γ : List Chunk} (h : Inv W (heapG W) Γ W') : RowKit.Below W.heap.size W W' := by
 refine ⟨h.os, h.tape, h.out, ?_, fun k hk => ?_⟩
 ·rcases Nat.eq_zero_or_pos W.heap.size with e | e
  ·omega
  ·have := h.fro (W.heap.size - 1) (W.heap[W.heap.size - 1]'(by omega)) (by simp [heapG]); have := (Array.getElem?_eq_some_iff.1 this).1; omega
 ·have := h.fro k (W.heap[k]'hk) (by simp [heapG, hk]); rw [this]; simp [hk]
def Opens (P : Program) (t : TypeId) (kd : Kd α) (ok : α → Prop) : Prop :=
 ∀ {H : Type} (enc : TypeId × Value → H) (W : World) (spare : Nat → Bool) (held : Bool) (fuel : Nat) (cs : List Value) (d : DataW H) (ps : List MemPlace),
  DataW.trod enc P W 0 spare held fuel t cs = some (d, ps) → ∃ x, kd.rel (heapG W) x cs ∧ ok x
theorem Opens.int {t : TypeId} {k : IntKind} (ht : P.underlying t = some (.int k)) : Opens P t (kInt k) (fun n => (Lit.int k n).wf = true) := by
 intro H enc W spare held fuel cs d ps h; obtain ⟨n, rfl, _, hw⟩ := DataW.trod_int ht h; exact ⟨n, rfl, hw⟩
theorem Opens.bool {t : TypeId} (ht : P.underlying t = some .bool) : Opens P t kBool (fun _ => True) := by
 intro H enc W spare held fuel cs d ps h; obtain ⟨n, rfl, _⟩ := DataW.trod_bool ht h; exact ⟨n, rfl, trivial⟩
theorem Opens.str {t : TypeId} (ht : P.underlying t = some .string) : Opens P t kStr (fun s => s.size ≤ maxLen) := by
 intro H enc W spare held fuel cs d ps h; obtain ⟨n, rfl, _, hw⟩ := DataW.trod_string ht h; exact ⟨n, rfl, hw⟩
theorem listOf {Q : Nat → α → Prop} (n : Nat) (h : ∀ i, i < n → ∃ x, Q i x) : ∃ xs : List α, xs.length = n ∧ ∀ i (hi : i < xs.length), Q i xs[i] := by
 induction n with
 | zero => exact ⟨[], rfl, fun i hi => by simp at hi⟩
 | succ n ih =>
  obtain ⟨xs, hl, hx⟩ := ih (fun i hi => h i (by omega)); obtain ⟨x, hq⟩ := h n (by omega); refine ⟨xs ++ [x], by simp [hl], fun i hi => ?_⟩; by_cases e : i < xs.length
  ·rw [List.getElem_append_left e]; exact hx i e
  ·have : i = xs.length := by simp at hi; omega
   subst this; simp; rw [hl]; exact hq
theorem mapM_range {f : Nat → Option β} : ∀ (l : List Nat) (ys : List β), l.mapM f = some ys → ys.length = l.length ∧ ∀ j (h : j < ys.length) (h' : j < l.length), f l[j] = some ys[j] := by
 intro l
 induction l with
 | nil => intro ys h; simp at h; subst h; exact ⟨rfl, fun j h => by simp at h⟩
 | cons a l ih =>
  intro ys h; simp only [List.mapM_cons, Option.bind_eq_bind, Option.bind_eq_some_iff, Option.pure_def, Option.some.injEq] at h; obtain ⟨y, hy, zs, hz, rfl⟩ := h; obtain ⟨h1, h2⟩ := ih zs hz; refine ⟨by simp [h1], fun j hj hj' => ?_⟩
  cases j with
  | zero => simpa using hy
  | succ j => simpa using h2 j (by simpa using hj) (by simpa using hj')
theorem cells_some {W : World} {a : Addr} {n : Nat} {cs : List Value} (h : W.cells? 0 a n = some cs) : cs.length = n ∧ ∀ j (hj : j < cs.length), W.cell? (a.add j) = some cs[j] := by
 unfold World.cells? at h; rw [if_pos (Nat.zero_le _)] at h; obtain ⟨h1, h2⟩ := mapM_range _ _ h; rw [List.length_range] at h1; exact ⟨h1, fun j hj => by have := h2 j hj (by simpa using (h1 ▸ hj)); simpa using this⟩
theorem Opens.slice {t e : TypeId} {kd : Kd α} {ok : α → Prop} (ht : P.underlying t = some (.slice e)) (he : Opens P e kd ok) (hc : P.cellsOf e = kd.sz) (h0 : 0 < kd.sz) :
  Opens P t (kSlice kd) (fun xs => xs.length ≤ maxLen ∧ ∀ x ∈ xs, ok x) := by
 intro H enc W spare held fuel cs d ps h; rcases Deep.open_slice ht h with ⟨rfl, _⟩ | ⟨a, len, cap, m, n, D, Pl, rfl, _, hl, hm, hmm, _, hx⟩
 ·exact ⟨[], ⟨none, 0, rfl, Rd.nil _ _ _ _⟩, by simp, by simp⟩
 ·have hlm : len ≤ m := by rw [hmm]; split <;> omega
  obtain ⟨xs, hxl, hxs⟩ := listOf (Q := fun i x => ok x ∧ ∃ cs', kd.rel (heapG W) x cs' ∧ ∀ j (hj : j < cs'.length), W.cell? (a.add (i * kd.sz + j)) = some cs'[j]) len (fun i hi => by
   obtain ⟨cs', h1, h2⟩ := hx i (by omega); obtain ⟨x, hr, hk⟩ := he enc W spare held n cs' _ _ h2; obtain ⟨h3, h4⟩ := cells_some h1; exact ⟨x, hk, cs', hr, fun j hj => by have := h4 j hj; rwa [add_add, hc] at this⟩)
  subst hxl; refine ⟨xs, ⟨some a, cap, rfl, hl, fun hne => ?_⟩, Nat.le_trans hl hm, fun x hx' => ?_⟩
  ·have hpos : 0 < xs.length := List.length_pos_iff.2 hne; obtain ⟨_, cs0, hr0, hc0⟩ := hxs 0 hpos; have hl0 := kd.len hr0; have h00 := hc0 0 (by omega); have hsp : a.spot = none := by
    simp only [Nat.zero_mul, Nat.zero_add, Addr.add, if_true, World.cell?] at h00
    split at h00
    ·split at h00
     ·cases h00
     ·rename_i hs; simpa using hs
    ·cases h00
   have hb : ∃ cells T fr, W.heap[a.block]? = some (.cells cells T fr) := by
    simp only [Nat.zero_mul, Nat.zero_add, Addr.add, if_true, World.cell?] at h00
    split at h00
    ·rename_i c T fr hh; exact ⟨c, T, fr, hh⟩
    ·cases h00
   obtain ⟨cells, T, fr, hb⟩ := hb; refine ⟨a, rfl, hsp, cells, T, fr, hb, fun i hi => ?_⟩; obtain ⟨_, cs', hr, hcc⟩ := hxs i hi; refine ⟨cs', hr, fun j hj => ?_⟩; have := hcc j hj; rw [add_off hsp, cell_of_block hb] at this; rw [Nat.add_assoc]; exact this
  ·obtain ⟨i, hi, rfl⟩ := List.mem_iff_getElem.1 hx'; exact (hxs i hi).1
end Go.Gg
