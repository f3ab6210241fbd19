/- What stands in memory for good: a fact of worlds that each world to come keeps; rows that a call has laid; runes. -/
import Derived.Test.YtmgkpphbehamcaaGreatDoorGgU
import Derived.Test.YtmgkpphbehamcaaGreatDoorGgR
import Derived.Laws.Cover4
import Derived.Laws.IdiomStrings
import Derived.Laws.AppendOwn
import Derived.Shelf.Strings.FuncGrows
import Derived.Shelf.Strings.CaseAny
namespace Go.Gg
set_option linter.unusedVariables false
open Go Go.Proofs
variable {P : Program} {B : World} {G G' : GMap} {Γ : List Chunk} {W : World} {α : Type} {kd : Kd α} {L : List (Nat × Value)} {ty : TypeId}
def Knows (T : World → Prop) (B : World) (G : GMap) : Prop := ∀ Γ w, Inv B G Γ w → T w
theorem Knows.mono {T : World → Prop} (h : Knows T B G) (hG : G.le G') : Knows T B G' := fun Γ w hI => h Γ w (hI.lower hG)
theorem Knows.start {T : World → Prop} (h : ∀ W', RowKit.Below W.heap.size W W' → T W') : Knows T W (heapG W) := fun Γ w hI => h w hI.below
theorem LiesL.strs : ∀ xs : List ByteArray, LiesL kStr G xs (xs.map Value.string)
 | [] => .nil
 | _ :: xs => .cons (cs := [_]) rfl (LiesL.strs xs)
def runesL (s : ByteArray) : Nat → Nat → List Int
 | 0, _ => []
 | b + 1, i => if i < s.size then ((Utf8.decode s i).1 : Int) :: runesL s b (i + (Utf8.decode s i).2) else []
def runesOf (s : ByteArray) : List Int := runesL s s.size 0
def RunesOk (f : Int → Option Bool) : Prop := ∀ x : Nat, x ≤ 1114111 → (f (x : Int)).isSome = true
instance (f : Int → Option Bool) : Decidable (RunesOk f) := inferInstanceAs (Decidable (∀ x : Nat, x ≤ 1114111 → (f (x : Int)).isSome = true))
theorem predGrows {g : Nat} (f : Int → Option Bool) (hs : RunesOk f) (h : ∀ W', RowKit.Below W.heap.size W W' → ∀ (x : Nat) (b : Bool), f (x : Int) = some b → Calls P g [.int .i32 (x : Int)].toArray W' fun e w' => e = .returned (.bool b) ∧ RowKit.Below W'.heap.size W' w') :
  PredGrows P g #[] (fun x => (f (x : Int)).getD false) W := by
 intro W' x hx hb; obtain ⟨b, e⟩ := Option.isSome_iff_exists.1 (hs x hx); have := h W' hb x b e; simpa [encR, e] using this
def normFrom (s : ByteArray) : Nat → Nat → List UInt8
 | 0, _ => []
 | fuel + 1, pos => if pos < s.size then Lib.encodeRune (Lib.toLowerU ((Utf8.decode s pos).1 : Int)) ++ normFrom s fuel (pos + (Utf8.decode s pos).2) else []
def normD (s : ByteArray) : ByteArray := if Lib.validD s.data.toList then ⟨(normFrom s s.size 0).toArray⟩ else ⟨#[]⟩
theorem normFrom_end (s : ByteArray) (fuel pos : Nat) (h : ¬ pos < s.size) : normFrom s fuel pos = [] := by
 cases fuel with
 | zero => rfl
 | succ f => simp [normFrom, h]
theorem below_grow (W : World) (k : Nat) (os : Array Obj) : RowKit.Below W.heap.size W (Go.Sort.grow (W.drewN k) os) :=
 ⟨rfl, rfl, rfl, by simp [Go.Sort.grow, World.drewN], fun i hi => by simp [Go.Sort.grow, World.drewN, Array.getElem?_append_left hi]⟩
theorem Rd.strCells {B : World} {G : GMap} {Γ : List Chunk} {W : World} {A : Option Addr} {c : Nat} {xs : List ByteArray} (h : Rd kStr G A c xs) (hI : Inv B G Γ W) (hx : xs ≠ []) :
  ∃ bk o, A = some ⟨bk, o, none⟩ ∧ bk < W.heap.size ∧ ∀ (j : Nat) x, xs[j]? = some x → W.cell? ⟨bk, o + j, none⟩ = some (.string x) := by
 obtain ⟨⟨bk, o, sp⟩, rfl, hs, cells, T, fr, hG, hl⟩ := h.2 hx; have hs : sp = none := hs; subst hs; have hb := hI.fro _ _ hG; refine ⟨bk, o, rfl, (Array.getElem?_eq_some_iff.1 hb).1, fun j x hj => ?_⟩; obtain ⟨hlt, e⟩ := List.getElem?_eq_some_iff.1 hj; obtain ⟨cs, hr, hc⟩ := hl j hlt; have hr : cs = [.string xs[j]] := hr; subst hr; have := hc 0 (by simp); rw [cell_of_block hb]; have e1 : kStr.sz = 1 := rfl; rw [e1] at this; simpa [e] using this
end Go.Gg
