/- Tables of Go's library that lie in memory as their text lays them; calls that leave all that was there. -/
import Derived.Test.YtmgkpphbehamcaaGreatDoorGgH
import Derived.Test.YtmgkpphbehamcaaGreatDoorGgL
import Derived.Shelf.Unicode.ValidAny
namespace Go.Gg
set_option linter.unusedVariables false
open Go Go.Proofs
variable {P : Program} {B : World} {G G' : GMap} {Γ : List Chunk} {W : World}
theorem Inv.kept {W' : World} (hI : Inv B G Γ W) (h : RowKit.Below W.heap.size W W') : Inv B G Γ W' := by
 have same : ∀ k, k < W.heap.size → W'.heap[k]? = W.heap[k]? := fun k hk => h.block k hk
 exact ⟨h.os.trans hI.os, h.output.trans hI.out, h.tape.trans hI.tape, fun b o e => by rw [same b (hI.ltG e)]; exact hI.fro b o e, fun p hp => by rw [same p.1 (hI.lt hp)]; exact hI.own p hp, hI.nd, hI.ap⟩
theorem Calls.kept {f : FuncId} {args : Array Value} {v : Value} (hc : Calls P f args W fun e w' => e = .returned v ∧ RowKit.Below W.heap.size W w') (hI : Inv B G Γ W) :
  Calls P f args W (Ret B fun v' G' Γ' => v' = v ∧ G = G' ∧ Γ = Γ') :=
 hc.mono fun e w' ⟨he, hb⟩ => ⟨_, _, _, he, ⟨rfl, rfl, rfl⟩, hI.kept hb⟩
def U8 (a b : Nat) (B : World) (G : GMap) : Prop := ∀ Γ w, Inv B G Γ w → Lib.Utf8Tabs a b w
theorem U8.mono {a b : Nat} (h : U8 a b B G) (hG : G.le G') : U8 a b B G' := fun Γ w hI => h Γ w (hI.lower hG)
theorem U8.start {a b : Nat} (h : Lib.Utf8Tabs a b W) : U8 a b W (heapG W) := fun Γ w hI => Utf8Tabs_below h hI.below
end Go.Gg
namespace Go.Gg
open Go
set_option linter.unusedVariables false
set_option linter.unusedSimpArgs false
variable {P : Program} {B : World} {G G' : GMap} {Γ Γ' : List Chunk} {W W' : World} {L : Env} {n : Nat} {ty : TypeId} {ops : Array Oper} {Q : Exit → Act → World → Prop}
variable {α β : Type}
theorem Dp.Closes.set {dk : Dk α} {A : Option Addr} {c : Nat} {xs : List α} {rs : List (Raw dk.k.sz)} {D : Chunk} {j : Nat} (h : Dp.Closes dk G A c xs rs D j) (X : Raw dk.k.sz) : Dp.Closes dk G A c xs (rs.set j X) D j :=
 fun e cs' Cj' hr C0' ho => h e cs' Cj' hr C0' (by rw [List.set_set] at ho; exact ho)
theorem raw_back {m j : Nat} {rs : List (Raw m)} {cs : List Value} (hcs : (rs[j]?).map (·.1) = some cs) (h1 : cs.length = m) (h2 : ∀ u ∈ cs, one1 u = true) : rs.set j (Raw.of cs h1 h2) = rs := by
 obtain ⟨r, hr, rfl⟩ := Option.map_eq_some_iff.1 hcs; obtain ⟨hj, e⟩ := List.getElem?_eq_some_iff.1 hr; have : Raw.of r.1 h1 h2 = rs[j] := by rw [e]; rfl
 rw [this, List.set_getElem_self]
theorem Dp.back {dk : Dk α} {A : Option Addr} {c : Nat} {xs : List α} {rs : List (Raw dk.k.sz)} {C0 D : Chunk} {j : Nat} (ho : Ow (kRaw dk.k.sz) G A c rs C0) (hc : Dp.Closes dk G A c xs rs D j) {cs : List Value} (hcs : (rs[j]?).map (·.1) = some cs)
  {e : α} {Cj : Chunk} (he : dk.rel e cs Cj) : ∃ C', Dp dk G A c (xs.set j e) C' ∧ (C0 ++ (D ++ Cj)).Perm C' :=
 hc e cs Cj he C0 (by rw [raw_back hcs]; exact ho)
theorem WP.reperm {x : Code} (hp : Γ.flatten.Perm Γ'.flatten) (h : WP P x Q n L B G Γ') : WP P x Q n L B G Γ := fun a W hF hI => h a W hF (hI.perm hp)
theorem QP.reperm {x : Exit} (hp : Γ.flatten.Perm Γ'.flatten) (h : QP Q x n L B G Γ') : QP Q x n L B G Γ := fun a W hF hI => h a W hF (hI.perm hp)
def Dp.Erases (dk : Dk α) (G : GMap) (xs : List α) (rs : List (Raw dk.k.sz)) (D : Chunk) (j : Nat) : Prop :=
 ∀ A' c' C0', Ow (kRaw dk.k.sz) G A' c' (rs.eraseIdx j) C0' → ∃ C', Dp dk G A' c' (xs.eraseIdx j) C' ∧ (C0' ++ D).Perm C'
theorem flatten_erase {β : Type} (Cs : List (List β)) (j : Nat) : (Cs.set j []).flatten = (Cs.eraseIdx j).flatten := by
 induction Cs generalizing j with
 | nil => rfl
 | cons C Cs ih => cases j with
  | zero => simp
  | succ j => simp [ih j]
theorem Dp.takeAt2 {dk : Dk α} {A : Option Addr} {c : Nat} {xs : List α} {C : Chunk} (h : Dp dk G A c xs C) {j : Nat} (hj : j < xs.length) (d : α) :
  ∃ (rs : List (Raw dk.k.sz)) (C0 D : Chunk) (cs : List Value) (Cj : Chunk), Ow (kRaw dk.k.sz) G A c rs C0 ∧ rs.length = xs.length ∧ (rs[j]?).map (·.1) = some cs ∧ dk.rel (xs.getD j d) cs Cj ∧ C.Perm (C0 ++ (D ++ Cj)) ∧
   Dp.Closes dk G A c xs rs D j ∧ Dp.Erases dk G xs rs D j := by
 obtain ⟨rs, C0, Cs, ho, rfl, hl, hl2, hr⟩ := h; refine ⟨rs, C0, (Cs.set j []).flatten, (rs[j]'(by omega)).1, Cs[j]'(by omega), ho.flat (fun _ _ _ _ h => h), hl, by simp [List.getElem?_eq_getElem (show j < rs.length by omega)], ?_, ?_, ?_, ?_⟩
 ·have := hr j hj (by omega) (by omega); simpa [List.getD_eq_getElem?_getD, List.getElem?_eq_getElem hj] using this
 ·refine List.Perm.append_left _ ?_; have := flatten_set Cs j (by omega) (Cs[j]'(by omega))
  rwa [List.set_getElem_self] at this
 ·intro e cs' Cj' he C0' ho'; refine ⟨C0' ++ (Cs.set j Cj').flatten, ⟨_, C0', Cs.set j Cj', ho'.flat (fun _ _ _ _ h => h), rfl, by rw [List.length_set, List.length_set]; exact hl, by simp [hl2], fun i hi h1 h2 => ?_⟩, List.Perm.append_left _ (flatten_set Cs j (by omega) Cj').symm⟩; have e1 : (Raw.of cs' (dk.len he) (dk.one he)).1 = cs' := rfl; by_cases hij : j = i
  ·subst hij; rw [List.getElem_set_self, List.getElem_set_self, List.getElem_set_self, e1]; exact he
  ·have := hr i (by simpa using hi) (by rw [List.length_set] at h1; exact h1) (by simpa using h2); rw [List.getElem_set_ne hij, List.getElem_set_ne hij, List.getElem_set_ne hij]; exact this
 ·intro A' c' C0' ho'; refine ⟨C0' ++ (Cs.eraseIdx j).flatten, ⟨_, C0', Cs.eraseIdx j, ho'.flat (fun _ _ _ _ h => h), rfl, by rw [List.length_eraseIdx, List.length_eraseIdx, hl], by rw [List.length_eraseIdx, List.length_eraseIdx, hl2], fun i hi h1 h2 => ?_⟩, by rw [flatten_erase]⟩; rw [List.length_eraseIdx] at hi; by_cases hij : i < j
  ·have := hr i (by omega) (by omega) (by omega); rw [List.getElem_eraseIdx_of_lt _ hij, List.getElem_eraseIdx_of_lt _ hij, List.getElem_eraseIdx_of_lt _ hij]; exact this
  ·have hi' : i + 1 < xs.length := by rw [if_pos hj] at hi; omega
   have := hr (i + 1) hi' (by omega) (by omega); have hge : j ≤ i := by omega
   rw [List.getElem_eraseIdx_of_ge _ hge, List.getElem_eraseIdx_of_ge _ hge, List.getElem_eraseIdx_of_ge _ hge]; exact this
theorem WL.takeE {i : Nat} {dk : Dk α} {A : Option Addr} {c : Nat} {xs : List α} {C : Chunk} (h : Dp dk G A c xs C) {j : Int} (h1 : j < xs.length) (h0 : 0 ≤ j) (d : α)
  (k : ∀ rs C0 D cs Cj, Ow (kRaw dk.k.sz) G A c rs C0 → rs.length = xs.length → (rs[j.toNat]?).map (·.1) = some cs → dk.rel (xs.getD j.toNat d) cs Cj → Dp.Closes dk G A c xs rs D j.toNat → Dp.Erases dk G xs rs D j.toNat → WL P ops Q i n L B G (C0 :: D :: Cj :: Γ)) :
  WL P ops Q i n L B G (C :: Γ) := by
 obtain ⟨rs, C0, D, cs, Cj, h2, h3, h4, h5, h6, h7, h8⟩ := h.takeAt2 (j := j.toNat) (by omega) d; refine WL.reperm ?_ (k rs C0 D cs Cj h2 h3 h4 h5 h7 h8); simp only [List.flatten_cons]; have := List.Perm.append_right Γ.flatten h6; simpa [List.append_assoc] using this
theorem WP.takeE {x : Code} {dk : Dk α} {A : Option Addr} {c : Nat} {xs : List α} {C : Chunk} (h : Dp dk G A c xs C) {j : Int} (h1 : j < xs.length) (h0 : 0 ≤ j) (d : α)
  (k : ∀ rs C0 D cs Cj, Ow (kRaw dk.k.sz) G A c rs C0 → rs.length = xs.length → (rs[j.toNat]?).map (·.1) = some cs → dk.rel (xs.getD j.toNat d) cs Cj → Dp.Closes dk G A c xs rs D j.toNat → Dp.Erases dk G xs rs D j.toNat → WP P x Q n L B G (C0 :: D :: Cj :: Γ)) :
  WP P x Q n L B G (C :: Γ) := by
 obtain ⟨rs, C0, D, cs, Cj, h2, h3, h4, h5, h6, h7, h8⟩ := h.takeAt2 (j := j.toNat) (by omega) d; refine WP.reperm ?_ (k rs C0 D cs Cj h2 h3 h4 h5 h7 h8); simp only [List.flatten_cons]; have := List.Perm.append_right Γ.flatten h6; simpa [List.append_assoc] using this
theorem WA.freezeN {G0 : GMap} {Γ0 : List Chunk} {kw m : Nat} {done : Array Bool} {i : Nat} {C : Chunk} (hi : Γ[i]? = some C) (h : ∀ G', G' = G.add C → G.le G' → (C.map (·.1)).Nodup → WA P ops Q kw m done n L B G0 Γ0 G' (Γ.set i [])) : WA P ops Q kw m done n L B G0 Γ0 G Γ := fun a W hF hI => by
 obtain ⟨h1, h2⟩ := (hI.take hi).freeze; exact h _ rfl h2 (hI.nodupAt hi) a W hF (Inv.putAt hi (C' := []) (h1.perm (by simp)))
theorem WO.freezeN {G0 : GMap} {Γ0 : List Chunk} {kw m j : Nat} {done : Array Bool} {i : Nat} {C : Chunk} (hi : Γ[i]? = some C) (h : ∀ G', G' = G.add C → G.le G' → (C.map (·.1)).Nodup → WO P ops Q kw m done j n L B G0 Γ0 G' (Γ.set i [])) : WO P ops Q kw m done j n L B G0 Γ0 G Γ := fun a W hF hI => by
 obtain ⟨h1, h2⟩ := (hI.take hi).freeze; exact h _ rfl h2 (hI.nodupAt hi) a W hF (Inv.putAt hi (C' := []) (h1.perm (by simp)))
theorem Under.sublLe {G0 : GMap} {Γ0 : List Chunk} (hle : G0.le G) (h : List.Sublist Γ0 Γ) : Under B G0 Γ0 G Γ := fun _ hw => (hw.lower hle).sub (flatten_subl h)
theorem Ow.head {α : Type} {kd : Kd α} {G : GMap} {A : Option Addr} {c : Nat} {xs ys : List α} {C : Chunk} (h : Ow kd G A c (xs ++ ys) C) : Ow kd G A c xs C := by
 have hl := h.1; rw [List.length_append] at hl; refine ⟨by omega, ?_⟩; rcases h.2 with ⟨h1, h2, h3, h4⟩ | ⟨b, cells, T, fr, h1, h2, h3, h4, h5⟩
 ·exact .inl ⟨h1, (List.append_eq_nil_iff.1 h2).1, h3, h4⟩
 ·refine .inr ⟨b, cells, T, fr, h1, h2, h3, h4, ?_⟩; have := h5.cut (lo := 0) (hi := xs.length); simpa using this
end Go.Gg
