/- Slices whose elements own slices: all that they own stands in one chunk. -/
import Derived.Test.YtmgkpphbehamcaaGreatDoorGgL
namespace Go.Gg
open Go
set_option linter.unusedVariables false
set_option linter.unusedSimpArgs false
variable {P : Program} {B : World} {G G' : GMap} {Γ Γ' : List Chunk} {W W' : World} {L : Env} {n : Nat} {ty : TypeId} {ops : Array Oper} {Q : Exit → Act → World → Prop}
variable {α β : Type}
def Raw (n : Nat) : Type := { cs : List Value // cs.length = n ∧ ∀ u ∈ cs, one1 u = true }
def kRaw (n : Nat) : Kd (Raw n) := ⟨n, fun _ x cs => cs = x.1, fun {_ x _} h => by rw [h]; exact x.2.1, fun {_ x _} h => by rw [h]; exact x.2.2, fun _ h => h⟩
abbrev G0 : GMap := fun _ => none
theorem G0.le (G : GMap) : G0.le G := fun _ _ h => by cases h
structure Dk (α : Type) where
 k : Kd α
 rel : α → List Value → Chunk → Prop
 len : ∀ {x cs C}, rel x cs C → cs.length = k.sz
 one : ∀ {x cs C}, rel x cs C → ∀ u ∈ cs, one1 u = true
 fr : ∀ {G x cs C}, rel x cs C → (∀ p ∈ C, G p.1 = some p.2) → k.rel G x cs
variable {dk : Dk α}
def Dp (dk : Dk α) (G : GMap) (A : Option Addr) (c : Nat) (xs : List α) (C : Chunk) : Prop :=
 ∃ (rs : List (Raw dk.k.sz)) (C0 : Chunk) (Cs : List Chunk), Ow (kRaw dk.k.sz) G0 A c rs C0 ∧ C = C0 ++ Cs.flatten ∧ rs.length = xs.length ∧ Cs.length = xs.length ∧
  ∀ i (h : i < xs.length) (h1 : i < rs.length) (h2 : i < Cs.length), dk.rel xs[i] rs[i].1 Cs[i]
theorem Dp.mono {A : Option Addr} {c : Nat} {xs : List α} {C : Chunk} (h : Dp dk G A c xs C) (_ : G.le G') : Dp dk G' A c xs C := h
theorem Dp.nil (dk : Dk α) (G : GMap) : Dp dk G none 0 [] [] := ⟨[], [], [], Ow.nil _ _, rfl, rfl, rfl, fun i h => absurd h (by simp)⟩
theorem Dp.isSome {A : Option Addr} {c : Nat} {xs : List α} {C : Chunk} (h : Dp dk G A c xs C) {j : Int} (h0 : 0 ≤ j) (h1 : j < xs.length) : A.isSome = true := by
 obtain ⟨rs, C0, Cs, ho, _, hl, _⟩ := h; exact ho.isSome h0 (by omega)
theorem Ow.rdN {kd : Kd α} {A : Option Addr} {c : Nat} {xs : List α} {C : Chunk} (h : Ow kd G A c xs C) (hle : G.le (G.add C)) (hn : (C.map (·.1)).Nodup) : Rd kd (G.add C) A c xs := h.rd hle
theorem Dp.rdN {A : Option Addr} {c : Nat} {xs : List α} {C : Chunk} (h : Dp dk G A c xs C) (hle : G.le (G.add C)) (hn : (C.map (·.1)).Nodup) : Rd dk.k (G.add C) A c xs := by
 obtain ⟨rs, C0, Cs, ho, rfl, hl, hl2, hr⟩ := h; have hall : ∀ p ∈ C0 ++ Cs.flatten, (G.add (C0 ++ Cs.flatten)) p.1 = some p.2 := fun p hp => by simp [GMap.add, nodup_lookup hn hp]
 refine ⟨by rw [← hl]; exact ho.1, fun hx => ?_⟩; rcases ho.2 with ⟨_, e, _⟩ | ⟨b, cells, T, fr, e, rfl, hsz, _, hlies⟩
 ·rw [e] at hl; exact absurd (List.length_eq_zero_iff.1 hl.symm) hx
 ·refine ⟨⟨b, 0, none⟩, e, rfl, cells, T, fr, hall (b, .cells cells T fr) (by simp), fun i hi => ?_⟩; obtain ⟨cs, hcs, hc⟩ := hlies i (by omega); have hcs : cs = (rs[i]'(by omega)).1 := hcs; refine ⟨cs, ?_, hc⟩; rw [hcs]; refine dk.fr (hr i hi (by omega) (by omega)) fun p hp => hall p ?_
  rw [List.mem_append]; exact .inr (List.mem_flatten.2 ⟨_, List.getElem_mem _, hp⟩)
theorem Inv.nodupAt {i : Nat} {C : Chunk} (hI : Inv B G Γ W) (hi : Γ[i]? = some C) : (C.map (·.1)).Nodup := by
 have := (hI.take hi).nd; simp only [List.flatten_cons, List.map_append] at this; exact (List.nodup_append.1 this).1
theorem WL.freezeN {j i : Nat} {C : Chunk} (hi : Γ[i]? = some C) (h : ∀ G', G' = G.add C → G.le G' → (C.map (·.1)).Nodup → WL P ops Q j n L B G' (Γ.set i [])) : WL P ops Q j n L B G Γ := fun a W hF hI =>
 WL.freeze hi (fun G' e le => h G' e le (hI.nodupAt hi)) a W hF hI
theorem WP.freezeN {x : Code} {i : Nat} {C : Chunk} (hi : Γ[i]? = some C) (h : ∀ G', G' = G.add C → G.le G' → (C.map (·.1)).Nodup → WP P x Q n L B G' (Γ.set i [])) : WP P x Q n L B G Γ := fun a W hF hI => by
 obtain ⟨h1, h2⟩ := (hI.take hi).freeze; exact h _ rfl h2 (hI.nodupAt hi) a W hF (Inv.putAt hi (C' := []) (h1.perm (by simp)))
theorem QP.freezeN {e : Exit} {i : Nat} {C : Chunk} (hi : Γ[i]? = some C) (h : ∀ G', G' = G.add C → G.le G' → (C.map (·.1)).Nodup → QP Q e n L B G' (Γ.set i [])) : QP Q e n L B G Γ := fun a W hF hI => by
 obtain ⟨h1, h2⟩ := (hI.take hi).freeze; exact h _ rfl h2 (hI.nodupAt hi) a W hF (Inv.putAt hi (C' := []) (h1.perm (by simp)))
theorem Calls.lendN {W : World} {f : FuncId} {args : Array Value} {H Γr : List Chunk} {i : Nat} {C : Chunk} {Φ : Value → List Chunk → Prop} (hi : Γr[i]? = some C) (hI : Inv B G (H ++ Γr) W)
  (hc : ∀ G1, G1 = G.add C → G.le G1 → (C.map (·.1)).Nodup → Inv B G1 (H ++ Γr.set i []) W → Calls P f args W (Ret B fun v' G' Γ' => ∃ N, Φ v' N ∧ G1 = G' ∧ N ++ Γr.set i [] = Γ')) :
  Calls P f args W (Ret B fun v' G' Γ' => ∃ N, Φ v' N ∧ G = G' ∧ N ++ Γr = Γ') := by
 have hn : (C.map (·.1)).Nodup := by
  have hj : (H ++ Γr)[H.length + i]? = some C := by rw [List.getElem?_append_right (by omega), Nat.add_sub_cancel_left]; exact hi
  exact hI.nodupAt hj
 exact Calls.lendH hi hn hI fun G1 e l hI' => hc G1 e l hn hI'
theorem Does.perm {s : Sem Next} {Φ Φ2 : Value → GMap → List Chunk → Prop} (hp : Γ.flatten.Perm Γ'.flatten) (h : Does P B G Γ' s Φ2) (hΦ : ∀ v G' Γ1, Φ2 v G' Γ1 → ∃ Γ2, Φ v G' Γ2 ∧ Γ1.flatten.Perm Γ2.flatten) : Does P B G Γ s Φ := fun W hI => by
 rcases h W (hI.perm hp) with ⟨r, v, W', G', Γ1, h1, h2, h3, h4⟩ | ⟨f, args, W1, h1, h2⟩
 ·obtain ⟨Γ2, h5, h6⟩ := hΦ v G' Γ1 h3; exact .inl ⟨r, v, W', G', Γ2, h1, h2, h5, h4.perm h6⟩
 ·refine .inr ⟨f, args, W1, h1, h2.mono ?_⟩; rintro e W' ⟨v, G', Γ1, he, h3, h4⟩; obtain ⟨Γ2, h5, h6⟩ := hΦ v G' Γ1 h3; exact ⟨v, G', Γ2, he, h5, h4.perm h6⟩
theorem Src.perm {kd : Kd α} {x : Value} {ys : List α} (hp : Γ'.flatten.Perm Γ.flatten) (h : Src P B G Γ kd x ys) : Src P B G Γ' kd x ys :=
 ⟨fun W hI => h.1 W (hI.perm hp), fun m hm => let ⟨cs, h1, h2, h3⟩ := h.2 m hm; ⟨cs, h1, h2, fun W hI => h3 W (hI.perm hp)⟩⟩
def Raw.of {n : Nat} (cs : List Value) (h1 : cs.length = n) (h2 : ∀ u ∈ cs, one1 u = true) : Raw n := ⟨cs, h1, h2⟩
def Dp.Closes (dk : Dk α) (G : GMap) (A : Option Addr) (c : Nat) (xs : List α) (rs : List (Raw dk.k.sz)) (D : Chunk) (j : Nat) : Prop :=
 ∀ e cs' Cj' (hr : dk.rel e cs' Cj') C0', Ow (kRaw dk.k.sz) G A c (rs.set j (Raw.of cs' (dk.len hr) (dk.one hr))) C0' → ∃ C', Dp dk G A c (xs.set j e) C' ∧ (C0' ++ (D ++ Cj')).Perm C'
theorem WL.reperm {i : Nat} (hp : Γ.flatten.Perm Γ'.flatten) (h : WL P ops Q i n L B G Γ') : WL P ops Q i n L B G Γ := fun a W hF hI => h a W hF (hI.perm hp)
theorem Dp.put {A : Option Addr} {c : Nat} {xs : List α} {rs : List (Raw dk.k.sz)} {C0 D : Chunk} {j : Int} (ho : Ow (kRaw dk.k.sz) G A c rs C0) (hl : rs.length = xs.length) (hc : Dp.Closes dk G A c xs rs D j.toNat) (h0 : 0 ≤ j) (h1 : j < xs.length)
  (Cls : List Chunk) {Γr : List Chunk} {x y : Operand} {v : Value} {e : α} {cs : List Value} (he : dk.rel e cs Cls.flatten) (hv : v.cells.toList = cs) {t : TypeId}
  (hx : evalE L x = some (.pointer (A.map (·.add (j.toNat * dk.k.sz))))) (hy : evalE L y = some v) (hsz : (P.info? t).map (·.size) = some dk.k.sz) :
  Does P B G (C0 :: D :: (Cls ++ Γr)) (exec1 (rho L) (.store t x y) ty) fun v' G' Γ' => v' = undef ∧ G = G' ∧ ∃ C', Dp dk G A c (xs.set j.toNat e) C' ∧ Γ' = C' :: Γr := by
 have hs := Ow.store (P := P) (B := B) (ty := ty) (L := L) ho (i := 0) (Γ := C0 :: D :: (Cls ++ Γr)) rfl h0 (by omega) hx hy hsz (z := Raw.of cs (dk.len he) (dk.one he)) hv; refine hs.perm (.refl _) ?_; rintro v' G' Γ1 ⟨rfl, rfl, C0', ho', rfl⟩; obtain ⟨C', h2, h3⟩ := hc e cs _ he C0' ho'; refine ⟨C' :: Γr, ⟨rfl, rfl, C', h2, rfl⟩, ?_⟩; have := List.Perm.append_right Γr.flatten h3; simpa [List.append_assoc] using this
end Go.Gg
