/- What stands in memory for good: a fact of worlds that each world to come keeps; rows that a call has laid; runes. -/
import Derived.Test.YtbphlohiealbeaaDoorGgU
import Derived.Test.YtbphlohiealbeaaDoorGgR
import Derived.Laws.Cover4
import Derived.Laws.IdiomStrings
import Derived.Laws.AppendOwn
import Derived.Shelf.Strings.FuncGrows
import Derived.Shelf.Strings.CaseAny
namespace Go.Gg
set_option linter.unusedVariables false
open Go Go.Proofs
variable {P : Program} {B : World} {G G' : GMap} {Γ : List Chunk} {W : World} {α : Type} {kd : Kd α} {L : List (Nat × Value)} {ty : TypeId}

def Knows (T : World → Prop) (B : World) (G : GMap) : Prop := ∀ Γ w, Inv B G Γ w → T w
theorem Knows.mono {T : World → Prop} (h : Knows T B G) (hG : G.le G') : Knows T B G' := fun Γ w hI => h Γ w (hI.lower hG)
theorem Knows.start {T : World → Prop} (h : ∀ W', RowKit.Below W.heap.size W W' → T W') : Knows T W (heapG W) := fun Γ w hI => h w hI.below

/-- A call that leaves what was there, and lays one block. -/
theorem Inv.keptNew {W' : World} {A : Nat} {o : Obj} (hI : Inv B G Γ W) (h : RowKit.Below W.heap.size W W') (hA : W.heap.size ≤ A) (ho : W'.heap[A]? = some o) : Inv B G ([(A, o)] :: Γ) W' := by
  have k := hI.kept h
  refine ⟨k.os, k.out, k.tape, k.fro, fun p hp => ?_, ?_, fun p hp => ?_⟩
  · rw [List.flatten_cons, List.cons_append, List.nil_append] at hp
    rcases List.mem_cons.1 hp with rfl | hp
    · exact ho
    · exact k.own p hp
  · rw [List.flatten_cons, List.cons_append, List.nil_append, List.map_cons]
    refine List.nodup_cons.2 ⟨fun hm => ?_, k.nd⟩
    obtain ⟨p, hp, e⟩ := List.mem_map.1 hm
    have := hI.lt hp
    simp only at e
    omega
  · rw [List.flatten_cons, List.cons_append, List.nil_append] at hp
    rcases List.mem_cons.1 hp with rfl | hp
    · cases e : G A with
      | none => rfl
      | some o' => have := hI.ltG e; omega
    · exact k.ap p hp

theorem Ow.ofRow {enc : α → Value} (h1 : kd.sz = 1) (hrel : ∀ G x, kd.rel G x [enc x]) {W' : World} {base : Nat} {e : TypeId} {A n c : Nat} {xs : List α} (h : W'.ownsRow base e 1 (.slice (some ⟨A, 0, none⟩) n c) n (xs.map enc)) :
    ∃ o, W'.heap[A]? = some o ∧ Ow kd G (some ⟨A, 0, none⟩) c xs [(A, o)] := by
  obtain ⟨hl, h⟩ := h
  rw [List.length_map, Nat.mul_one] at hl
  subst hl
  rcases h with ⟨hv, _⟩ | ⟨g, cap, cur, hv, _, hg, hn, _, hs, ht⟩
  · cases hv
  · injection hv with e1 _ e2
    injection e1 with e1
    injection e1 with e1
    subst e1
    subst e2
    refine ⟨_, hg, hn, .inr ⟨A, cur, e, (0, 0), rfl, rfl, by rw [hs, h1], Free.zero _, fun i hi => ⟨[enc xs[i]], hrel G _, fun j hj => ?_⟩⟩⟩
    have hj0 : j = 0 := by simp at hj; omega
    subst hj0
    have := congrArg (·[i]?) ht
    rw [Nat.mul_one] at this
    simp only [List.getElem?_take, hi, if_true, List.getElem?_map, List.getElem?_eq_getElem hi, Option.map_some, Array.getElem?_toList] at this
    simpa [h1] using this

/-! ### runes -/
def runesL (s : ByteArray) : Nat → Nat → List Int
  | 0, _ => []
  | b + 1, i => if i < s.size then ((Utf8.decode s i).1 : Int) :: runesL s b (i + (Utf8.decode s i).2) else []
/-- The runes of a string. -/
def runesOf (s : ByteArray) : List Int := runesL s s.size 0
/-- A function on runes that tells of each one. -/
def RunesOk (f : Int → Option Bool) : Prop := ∀ x : Nat, x ≤ 1114111 → (f (x : Int)).isSome = true
instance (f : Int → Option Bool) : Decidable (RunesOk f) := inferInstanceAs (Decidable (∀ x : Nat, x ≤ 1114111 → (f (x : Int)).isSome = true))
theorem predGrows {g : Nat} (f : Int → Option Bool) (hs : RunesOk f) (h : ∀ W', RowKit.Below W.heap.size W W' → ∀ (x : Nat) (b : Bool), f (x : Int) = some b → Calls P g [.int .i32 (x : Int)].toArray W' fun e w' => e = .returned (.bool b) ∧ RowKit.Below W'.heap.size W' w') :
    PredGrows P g #[] (fun x => (f (x : Int)).getD false) W := by
  intro W' x hx hb
  obtain ⟨b, e⟩ := Option.isSome_iff_exists.1 (hs x hx)
  have := h W' hb x b e
  simpa [encR, e] using this

/-! ### lower letters -/
def normFrom (s : ByteArray) : Nat → Nat → List UInt8
  | 0, _ => []
  | fuel + 1, pos => if pos < s.size then Lib.encodeRune (Lib.toLowerU ((Utf8.decode s pos).1 : Int)) ++ normFrom s fuel (pos + (Utf8.decode s pos).2) else []
def normD (s : ByteArray) : ByteArray := if Lib.validD s.data.toList then ⟨(normFrom s s.size 0).toArray⟩ else ⟨#[]⟩
theorem normFrom_end (s : ByteArray) (fuel pos : Nat) (h : ¬ pos < s.size) : normFrom s fuel pos = [] := by
  cases fuel with
  | zero => rfl
  | succ f => simp [normFrom, h]
theorem below_grow (W : World) (k : Nat) (os : Array Obj) : RowKit.Below W.heap.size W (Go.Sort.grow (W.drewN k) os) :=
  ⟨rfl, rfl, rfl, by simp [Go.Sort.grow, World.drewN], fun i hi => by simp [Go.Sort.grow, World.drewN, Array.getElem?_append_left hi]⟩
theorem Rd.strCells {B : World} {G : GMap} {Γ : List Chunk} {W : World} {A : Option Addr} {c : Nat} {xs : List ByteArray} (h : Rd kStr G A c xs) (hI : Inv B G Γ W) (hx : xs ≠ []) :
    ∃ bk o, A = some ⟨bk, o, none⟩ ∧ bk < W.heap.size ∧ ∀ (j : Nat) x, xs[j]? = some x → W.cell? ⟨bk, o + j, none⟩ = some (.string x) := by
  obtain ⟨⟨bk, o, sp⟩, rfl, hs, cells, T, fr, hG, hl⟩ := h.2 hx
  have hs : sp = none := hs
  subst hs
  have hb := hI.fro _ _ hG
  refine ⟨bk, o, rfl, (Array.getElem?_eq_some_iff.1 hb).1, fun j x hj => ?_⟩
  obtain ⟨hlt, e⟩ := List.getElem?_eq_some_iff.1 hj
  obtain ⟨cs, hr, hc⟩ := hl j hlt
  have hr : cs = [.string xs[j]] := hr
  subst hr
  have := hc 0 (by simp)
  rw [cell_of_block hb]
  have e1 : kStr.sz = 1 := rfl
  rw [e1] at this
  simpa [e] using this
end Go.Gg
