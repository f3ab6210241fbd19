/- Kinds for what owns more: a map as a function, and a pointer with the box it points to and what that box owns. -/
import Derived.Test.YtbifgnloeopdaaaDoorGgW
namespace Go.Gg
open Go
set_option linter.unusedVariables false
section
variable {κ ν : Type} [DecidableEq κ]
def kMapF (m : Mk κ ν) : Kd (κ → Option ν) where
 sz := 1
 rel G f cs := ∃ A c C, cs = [mpv A] ∧ MpF m G0 A c f C ∧ ∀ p ∈ C, G p.1 = some p.2
 len := fun ⟨_, _, _, h, _⟩ => by rw [h]; rfl
 one := fun ⟨_, _, _, h, _⟩ => by rw [h]; simp [one1, mpv]
 mono := fun hG ⟨A, c, C, h, hm, hC⟩ => ⟨A, c, C, h, hm, fun p hp => hG _ _ (hC p hp)⟩
def dMapF (m : Mk κ ν) : Dk (κ → Option ν) where
 k := kMapF m
 rel f cs C := ∃ A c, cs = [mpv A] ∧ MpF m G0 A c f C
 len := fun ⟨_, _, h, _⟩ => by rw [h]; rfl
 one := fun ⟨_, _, h, _⟩ => by rw [h]; simp [one1, mpv]
 fr := fun ⟨A, c, h, hm⟩ hC => ⟨A, c, _, h, hm, hC⟩
end
section
variable {α : Type}
def kPtr (k : Kd α) (T : TypeId) : Kd α where
 sz := 1
 rel G x cs := ∃ b l, cs = [.pointer (some ⟨b, 0, none⟩)] ∧ G b = some (.cells l.toArray T (0, 0)) ∧ k.rel G x l
 len := fun ⟨_, _, h, _⟩ => by rw [h]; rfl
 one := fun ⟨_, _, h, _⟩ => by rw [h]; simp [one1]
 mono := fun hG ⟨b, l, h, hb, hr⟩ => ⟨b, l, h, hG _ _ hb, k.mono hG hr⟩
def dPtr (a : Dk α) (T : TypeId) : Dk α where
 k := kPtr a.k T
 rel x cs C := ∃ b l Ci, cs = [.pointer (some ⟨b, 0, none⟩)] ∧ C = (b, .cells l.toArray T (0, 0)) :: Ci ∧ a.rel x l Ci
 len := fun ⟨_, _, _, h, _⟩ => by rw [h]; rfl
 one := fun ⟨_, _, _, h, _⟩ => by rw [h]; simp [one1]
 fr := fun ⟨b, l, Ci, h, e, hr⟩ hC => ⟨b, l, h, hC (b, .cells l.toArray T (0, 0)) (by rw [e]; simp), a.fr hr fun p hp => hC p (by rw [e]; simp [hp])⟩
end
theorem QP.reput {Q : Exit → Act → World → Prop} {e : Exit} {n : Nat} {L : Env} {B : World} {G : GMap} {Γ : List Chunk} (t : Nat) {v v' : Value} (ht : L.lookup t = some v) (e' : v = v') (h : QP Q e n ((t, v') :: L) B G Γ) : QP Q e n L B G Γ := fun a W hF hI => h a W (hF.reput ht e') hI
section
variable {P : Program} {B : World} {G G' : GMap} {Γ Γ' : List Chunk} {L : Env} {n : Nat} {Q : Exit → Act → World → Prop}
theorem WR.loopF {c : Code} (J : Nat → Env → GMap → List Chunk → Prop)
  (round : ∀ k L G Γ, J k L G Γ → WP P c (Exit.then (Meet n B fun L' G' Γ' => ∃ k', k' < k ∧ J k' L' G' Γ') Q) n L B G Γ) (k : Nat) (h : J k L G Γ) : WR P c Q n L B G Γ := by
 induction k using Nat.strongRecOn generalizing L G Γ with
 | ind k ih =>
  exact WR.again (WP.mono (round k L G Γ h) fun e a w hq => by
   cases e <;> first | exact hq | (obtain ⟨L', G', Γ', ⟨k', hk, hJ⟩, hF, hI⟩ := hq; exact ih k' hk hJ a w hF hI))
theorem WR.dropAt {c : Code} (i : Nat) (h : WR P c Q n L B G (Γ.eraseIdx i)) : WR P c Q n L B G Γ := fun a W hF hI => h a W hF (hI.sub (erase_sub _ _))
theorem WR.addNil {c : Code} (h : WR P c Q n L B G ([] :: Γ)) : WR P c Q n L B G Γ := fun a W hF hI => h a W hF (hI.perm (by simp))
theorem WR.front {c : Code} {i : Nat} {C : Chunk} (hi : Γ[i]? = some C) (h : WR P c Q n L B G (C :: Γ.eraseIdx i)) : WR P c Q n L B G Γ := fun a W hF hI => h a W hF (hI.take hi)
theorem WR.reperm {c : Code} (hp : Γ.flatten.Perm Γ'.flatten) (h : WR P c Q n L B G Γ') : WR P c Q n L B G Γ := fun a W hF hI => h a W hF (hI.perm hp)
theorem WR.reput {c : Code} (t : Nat) {v v' : Value} (ht : L.lookup t = some v) (e : v = v') (h : WR P c Q n ((t, v') :: L) B G Γ) : WR P c Q n L B G Γ := fun a W hF hI => h a W (hF.reput ht e) hI
end
end Go.Gg
