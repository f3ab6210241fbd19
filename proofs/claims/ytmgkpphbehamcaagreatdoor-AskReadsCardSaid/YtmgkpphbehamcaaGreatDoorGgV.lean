/- What stands in memory for good: a fact of worlds that each world to come keeps; rows that a call has laid; runes. -/
import Derived.Test.YtmgkpphbehamcaaGreatDoorGgU
import Derived.Test.YtmgkpphbehamcaaGreatDoorGgR
import Derived.Laws.Cover4
import Derived.Laws.IdiomStrings
import Derived.Laws.AppendOwn
import Derived.Shelf.Strings.FuncGrows
import Derived.Shelf.Strings.CaseAny
namespace Go.Gg
set_option linter.unusedVariables false
open Go Go.Proofs
variable {P : Program} {B : World} {G G' : GMap} {Γ : List Chunk} {W : World} {α : Type} {kd : Kd α} {L : List (Nat × Value)} {ty : TypeId}
def Knows (T : World → Prop) (B : World) (G : GMap) : Prop := ∀ Γ w, Inv B G Γ w → T w
theorem Knows.mono {T : World → Prop} (h : Knows T B G) (hG : G.le G') : Knows T B G' := fun Γ w hI => h Γ w (hI.lower hG)
theorem Knows.start {T : World → Prop} (h : ∀ W', RowKit.Below W.heap.size W W' → T W') : Knows T W (heapG W) := fun Γ w hI => h w hI.below
theorem LiesL.strs : ∀ xs : List ByteArray, LiesL kStr G xs (xs.map Value.string)
 | [] => .nil
 | _ :: xs => .cons (cs := [_]) rfl (LiesL.strs xs)
def runesL (s : ByteArray) : Nat → Nat → List Int
 | 0, _ => []
 | b + 1, i => if i < s.size then ((Utf8.decode s i).1 : Int) :: runesL s b (i + (Utf8.decode s i).2) else []
def runesOf (s : ByteArray) : List Int := runesL s s.size 0
theorem runesFrom_eq (s : ByteArray) : ∀ (b i : Nat) (acc : Array Value), Conv.runesFrom s b i acc = acc ++ ((runesL s b i).map (Value.int .i32)).toArray
 | 0, _, acc => by simp [Conv.runesFrom, runesL]
 | b + 1, i, acc => by
  unfold Conv.runesFrom runesL
  split
  ·show Conv.runesFrom s b (i + (Utf8.decode s i).2) (acc.push (.int .i32 ((Utf8.decode s i).1 : Int))) = _; rw [runesFrom_eq s b]; simp
  ·simp
theorem runesL_length (s : ByteArray) : ∀ (b i : Nat), (runesL s b i).length ≤ b
 | 0, _ => by simp [runesL]
 | b + 1, i => by
  unfold runesL
  split
  ·have := runesL_length s b (i + (Utf8.decode s i).2); simp; omega
  ·simp
theorem runesOf_length (s : ByteArray) : (runesOf s).length ≤ s.size := runesL_length s _ _
def runesTy (P : Program) (t : TypeId) : Bool := match P.underlying t with | some (.slice e) => (match P.underlying e with | some (.int .i32) => true | _ => false) | _ => false
theorem runesTy_some {t : TypeId} (h : runesTy P t = true) : ∃ e, P.underlying t = some (.slice e) ∧ P.underlying e = some (.int .i32) := by
 unfold runesTy at h
 split at h
 ·rename_i e he
  split at h
  ·rename_i h2; exact ⟨e, he, h2⟩
  ·cases h
 ·cases h
theorem Rd.runesStr {A : Option Addr} {c : Nat} {xs : List Int} (hr : Rd (kInt .i32) G A c xs) {src dst : TypeId} {x : Operand} (hx : evalE L x = some (.slice A xs.length c)) (hs : runesTy P src = true) (hd : P.underlying dst = some .string) :
  Tells P B G Γ (exec1 (rho L) (.convert src dst x) ty) (.string (runesBytes xs)) := by
 refine Tells.of_run (s := convert src dst (rho L x)) fun W hI => ?_
 rw [rho_of hx]; obtain ⟨e, h1, h2⟩ := runesTy_some hs; by_cases h0 : xs = []
 ·subst h0
  cases A with
  | none => exact run_convert_runes_nil (P := P) W src dst e _ c h1 h2 hd
  | some ad =>
   have := run_convert_runes (P := P) W src dst e ad 0 c [] (by simp) h1 h2 hd (fun j hj => by simp at hj); simpa using this
 ·obtain ⟨ad, rfl, hsp, cells, T, fr, hG, hl⟩ := hr.2 h0; have := run_convert_runes (P := P) W src dst e ad xs.length c xs (Nat.le_refl _) h1 h2 hd (fun i hi => by
   obtain ⟨cs, hcs, hc⟩ := hl i hi; simp only [kInt] at hcs; subst hcs; have := hc 0 (by simp); rw [add_off hsp, cell_of_block (hI.fro _ _ hG)]; simpa [kInt, List.getElem?_eq_getElem hi] using this)
  simpa using this
theorem Ow.runesStr {A : Option Addr} {c : Nat} {xs : List Int} {C : Chunk} (hr : Ow (kInt .i32) G A c xs C) {i : Nat} (hi : Γ[i]? = some C) {src dst : TypeId} {x : Operand} (hx : evalE L x = some (.slice A xs.length c)) (hs : runesTy P src = true) (hd : P.underlying dst = some .string) :
  Tells P B G Γ (exec1 (rho L) (.convert src dst x) ty) (.string (runesBytes xs)) := by
 refine Tells.of_run (s := convert src dst (rho L x)) fun W hI => ?_
 rw [rho_of hx]; obtain ⟨e, h1, h2⟩ := runesTy_some hs; rcases hr.2 with ⟨rfl, rfl, rfl, rfl⟩ | ⟨b, cells, T, fr, rfl, rfl, _, _, hl⟩
 ·exact run_convert_runes_nil (P := P) W src dst e _ _ h1 h2 hd
 ·have := run_convert_runes (P := P) W src dst e ⟨b, 0, none⟩ xs.length c xs (Nat.le_refl _) h1 h2 hd (fun j hj => by
   obtain ⟨cs, hcs, hc⟩ := hl j hj; simp only [kInt] at hcs; subst hcs; have := hc 0 (by simp); rw [add_off rfl, cell_of_block (hI.chunk hi)]; simpa [kInt, List.getElem?_eq_getElem hj] using this)
  simpa using this
theorem Does.runes {src dst : TypeId} {x : Operand} {s : ByteArray} (hx : evalE L x = some (.string s)) (hd : runesTy P dst = true) (hs : P.underlying src = some .string) (hb : s.size ≤ 70368744177664) :
  Does P B G Γ (exec1 (rho L) (.convert src dst x) ty) fun v G' Γ' => G = G' ∧ ∃ A c C, v = .slice A (runesOf s).length c ∧ Ow (kInt .i32) G A c (runesOf s) C ∧ Γ' = C :: Γ := by
 obtain ⟨e, h1, h2⟩ := runesTy_some hd; have hn := runesOf_length s; have hsz : (Conv.runesFrom s s.size 0 #[]).size = (runesOf s).length := by rw [runesFrom_eq]; simp [runesOf]
 refine Does.of_val (s := convert src dst (rho L x)) fun W hI => ?_
 rw [rho_of hx]; have hrun := run_runes_of_string (P := P) W src dst e s hs h1 h2 (by omega); rw [hsz] at hrun; have hge : (runesOf s).length ≤ grownCap W (runesOf s).length 0 e := grownCap_ge W _ 0 e; refine ⟨_, _, G, _, hrun, ⟨rfl, some ⟨W.heap.size, 0, none⟩, _, _, rfl, ⟨hge, .inr ⟨W.heap.size, _, e, (0, 0), rfl, rfl, ?_, Free.zero _, fun i hi => ⟨[.int .i32 (runesOf s)[i]], rfl, fun j hj => ?_⟩⟩⟩, rfl⟩, hI.drew.alloc _⟩
 ·show _ = grownCap W (runesOf s).length 0 e * 1; rw [Array.size_append, Array.size_replicate, hsz]; omega
 ·have hj0 : j = 0 := by simp at hj; omega
  subst hj0; have e1 : Conv.runesFrom s s.size 0 #[] = ((runesOf s).map (Value.int .i32)).toArray := by rw [runesFrom_eq]; simp [runesOf]
  rw [e1]; have : 0 + i * (kInt .i32).sz + 0 = i := by simp [kInt]
  rw [this, Array.getElem?_append_left (by simpa using hi)]; simp [List.getElem?_eq_getElem hi]
def RunesOk (f : Int → Option Bool) : Prop := ∀ x : Nat, x ≤ 1114111 → (f (x : Int)).isSome = true
instance (f : Int → Option Bool) : Decidable (RunesOk f) := inferInstanceAs (Decidable (∀ x : Nat, x ≤ 1114111 → (f (x : Int)).isSome = true))
theorem predGrows {g : Nat} (f : Int → Option Bool) (hs : RunesOk f) (h : ∀ W', RowKit.Below W.heap.size W W' → ∀ (x : Nat) (b : Bool), f (x : Int) = some b → Calls P g [.int .i32 (x : Int)].toArray W' fun e w' => e = .returned (.bool b) ∧ RowKit.Below W'.heap.size W' w') :
  PredGrows P g #[] (fun x => (f (x : Int)).getD false) W := by
 intro W' x hx hb; obtain ⟨b, e⟩ := Option.isSome_iff_exists.1 (hs x hx); have := h W' hb x b e; simpa [encR, e] using this
def normFrom (s : ByteArray) : Nat → Nat → List UInt8
 | 0, _ => []
 | fuel + 1, pos => if pos < s.size then Lib.encodeRune (Lib.toLowerU ((Utf8.decode s pos).1 : Int)) ++ normFrom s fuel (pos + (Utf8.decode s pos).2) else []
def normD (s : ByteArray) : ByteArray := if Lib.validD s.data.toList then ⟨(normFrom s s.size 0).toArray⟩ else ⟨#[]⟩
theorem normFrom_end (s : ByteArray) (fuel pos : Nat) (h : ¬ pos < s.size) : normFrom s fuel pos = [] := by
 cases fuel with
 | zero => rfl
 | succ f => simp [normFrom, h]
theorem below_grow (W : World) (k : Nat) (os : Array Obj) : RowKit.Below W.heap.size W (Go.Sort.grow (W.drewN k) os) :=
 ⟨rfl, rfl, rfl, by simp [Go.Sort.grow, World.drewN], fun i hi => by simp [Go.Sort.grow, World.drewN, Array.getElem?_append_left hi]⟩
theorem Rd.strCells {B : World} {G : GMap} {Γ : List Chunk} {W : World} {A : Option Addr} {c : Nat} {xs : List ByteArray} (h : Rd kStr G A c xs) (hI : Inv B G Γ W) (hx : xs ≠ []) :
  ∃ bk o, A = some ⟨bk, o, none⟩ ∧ bk < W.heap.size ∧ ∀ (j : Nat) x, xs[j]? = some x → W.cell? ⟨bk, o + j, none⟩ = some (.string x) := by
 obtain ⟨⟨bk, o, sp⟩, rfl, hs, cells, T, fr, hG, hl⟩ := h.2 hx; have hs : sp = none := hs; subst hs; have hb := hI.fro _ _ hG; refine ⟨bk, o, rfl, (Array.getElem?_eq_some_iff.1 hb).1, fun j x hj => ?_⟩; obtain ⟨hlt, e⟩ := List.getElem?_eq_some_iff.1 hj; obtain ⟨cs, hr, hc⟩ := hl j hlt; have hr : cs = [.string xs[j]] := hr; subst hr; have := hc 0 (by simp); rw [cell_of_block hb]; have e1 : kStr.sz = 1 := rfl; rw [e1] at this; simpa [e] using this
end Go.Gg
