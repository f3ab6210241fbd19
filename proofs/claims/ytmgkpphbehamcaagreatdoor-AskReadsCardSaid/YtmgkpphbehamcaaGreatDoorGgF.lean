/- Rules for ways that meet, loops, exits, and regions in whatever order. Nothing of any one program is said here. -/
import Derived.Test.YtmgkpphbehamcaaGreatDoorGgE
namespace Go.Gg
variable {P : Program} {B : World} {G G' : GMap} {Γ Γ' : List Chunk} {W W' : World} {L L' : Env} {ty : TypeId} {n : Nat} {Q : Exit → Act → World → Prop} {ops : Array Oper}
def Meet (n : Nat) (B : World) (M : Env → GMap → List Chunk → Prop) (a : Act) (w : World) : Prop := ∃ L G Γ, M L G Γ ∧ Fr n L a ∧ Inv B G Γ w
theorem QP.meet {M : Env → GMap → List Chunk → Prop} (h : M L G Γ) : QP (Exit.then (Meet n B M) Q) .normal n L B G Γ := fun _ _ hF hI => ⟨L, G, Γ, h, hF, hI⟩
theorem QP.thenE {id : Nat} {K : Act → World → Prop} (h : QP Q (.exit id) n L B G Γ) : QP (Exit.then K Q) (.exit id) n L B G Γ := h
theorem QP.thenR {K : Act → World → Prop} (h : QP Q .ret n L B G Γ) : QP (Exit.then K Q) .ret n L B G Γ := h
theorem QP.blockE {id : Nat} (h : QP Q .normal n L B G Γ) : QP (Exit.inBlock id Q) (.exit id) n L B G Γ := fun a W hF hI => by
 simp only [Exit.inBlock, if_true]; exact h a W hF hI
theorem QP.blockM {id id' : Nat} (hne : (id' == id) = false) (h : QP Q (.exit id') n L B G Γ) : QP (Exit.inBlock id Q) (.exit id') n L B G Γ := fun a W hF hI => by
 simp only [Exit.inBlock]; rw [if_neg (by simpa using hne)]; exact h a W hF hI
theorem QP.blockN {id : Nat} (h : QP Q .normal n L B G Γ) : QP (Exit.inBlock id Q) .normal n L B G Γ := h
theorem QP.blockR {id : Nat} (h : QP Q .ret n L B G Γ) : QP (Exit.inBlock id Q) .ret n L B G Γ := h
theorem WP.cut {x y : Code} (M : Env → GMap → List Chunk → Prop) (hx : WP P x (Exit.then (Meet n B M) Q) n L B G Γ) (hy : ∀ L' G' Γ', M L' G' Γ' → WP P y Q n L' B G' Γ') :
  WP P (.seq x y) Q n L B G Γ := fun a W hF hI =>
 wp_seq (wp_mono (hx a W hF hI) fun e a w h => by
  cases e <;> first | exact h | (obtain ⟨L', G', Γ', hM, hF', hI'⟩ := h; exact hy L' G' Γ' hM a w hF' hI'))
theorem WP.loopF {c : Code} (J : Nat → Env → GMap → List Chunk → Prop)
  (round : ∀ k L G Γ, J k L G Γ → WP P c (Exit.then (Meet n B fun L' G' Γ' => ∃ k', k' < k ∧ J k' L' G' Γ') Q) n L B G Γ)
  (k : Nat) (h : J k L G Γ) : WP P (.loop c) Q n L B G Γ := fun a W hF hI =>
 wp_loopF (fun k a w => ∃ L G Γ, J k L G Γ ∧ Fr n L a ∧ Inv B G Γ w)
  (fun k a w ⟨L, G, Γ, hJ, hF, hI⟩ => wp_mono (round k L G Γ hJ a w hF hI) fun e a w h => by
   cases e <;> first | exact h | (obtain ⟨L', G', Γ', ⟨k', hk, hJ'⟩, hF', hI'⟩ := h; exact ⟨k', hk, L', G', Γ', hJ', hF', hI'⟩))
  k a W ⟨L, G, Γ, h, hF, hI⟩
theorem sel_all (Γ : List Chunk) : ∀ m : Nat, (((List.range m).map fun i => Γ.getD i []) ++ Γ.drop m).flatten = Γ.flatten
 | 0 => by simp
 | m + 1 => by
  rw [← sel_all Γ m]; by_cases h : m < Γ.length
  ·rw [List.drop_eq_getElem_cons h, List.range_succ, List.map_append, List.append_assoc]; have e : [m].map (fun i => Γ.getD i []) = [Γ[m]] := by simp [h]
   rw [e]; rfl
  ·rw [List.drop_eq_nil_of_le (by omega), List.drop_eq_nil_of_le (by omega), List.range_succ, List.map_append]; simp [List.getElem?_eq_none (show Γ.length ≤ m by omega)]
theorem perm_sel {Γ Γ' : List Chunk} (is : List Nat) (h : is.isPerm (List.range is.length) = true) (e : (is.map fun i => Γ.getD i []) ++ Γ.drop is.length = Γ') : Γ.flatten.Perm Γ'.flatten := by
 subst e; rw [← sel_all Γ is.length, List.flatten_append, List.flatten_append]; exact List.Perm.append_right _ ((List.isPerm_iff.1 h).symm.map _).flatten
def LoopAt (P : Program) (c : Code) (Q : Exit → Act → World → Prop) (a : Act) (w : World) : Prop :=
 ∀ (b : Frame) (k : List Item) (cs : List Frame), ∃ e a' w', Q e a' w' ∧ Arrives P (lone (b.at a (.inLoop c :: k)) cs w) b k cs e a' w'
def WR (P : Program) (c : Code) (Q : Exit → Act → World → Prop) (n : Nat) (L : Env) (B : World) (G : GMap) (Γ : List Chunk) : Prop := ∀ a W, Fr n L a → Inv B G Γ W → LoopAt P c Q a W
theorem WR.pick (ks : List Nat) {c : Code} (h : WR P c Q n (pickE ks L) B G Γ) : WR P c Q n L B G Γ := fun a W hF hI => h a W (hF.pick ks) hI
theorem WP.seqP {id : Nat} {y : Code} (ks : List Nat) {L' : Env} (h : (runP P ops n L ops.toList).map (pickE ks) = some L') (next : WP P y Q n L' B G Γ) :
  WP P (.seq (.region id ops false) y) Q n L B G Γ :=
 WP.seqR (WL.rest 0 ks (by simpa using h) (QP.next next))
theorem WP.regionP {id : Nat} (ks : List Nat) {L' : Env} (h : (runP P ops n L ops.toList).map (pickE ks) = some L') (next : QP Q .normal n L' B G Γ) :
  WP P (.region id ops false) Q n L B G Γ :=
 WP.region (WL.rest 0 ks (by simpa using h) next)
theorem WL.restQ (i : Nat) (ks : List Nat) {y : Code} {L' : Env} (h : (runP P ops n L (ops.toList.drop i)).map (pickE ks) = some L')
  (next : WP P y Q n L' B G Γ) : WL P ops (Exit.then (fun a w => y.wp P Q a w) Q) i n L B G Γ := WL.rest i ks h (QP.next next)
theorem WP.freeze {c : Code} {i : Nat} {C : Chunk} (hi : Γ[i]? = some C) (h : ∀ G', G' = G.add C → G.le G' → WP P c Q n L B G' (Γ.set i [])) : WP P c Q n L B G Γ := fun a W hF hI => by
 obtain ⟨h1, h2⟩ := (hI.take hi).freeze; exact h _ rfl h2 a W hF (Inv.putAt hi (C' := []) (h1.perm (by simp)))
theorem WL.freeze {j i : Nat} {C : Chunk} (hi : Γ[i]? = some C) (h : ∀ G', G' = G.add C → G.le G' → WL P ops Q j n L B G' (Γ.set i [])) : WL P ops Q j n L B G Γ := fun a W hF hI => by
 obtain ⟨h1, h2⟩ := (hI.take hi).freeze; exact h _ rfl h2 a W hF (Inv.putAt hi (C' := []) (h1.perm (by simp)))
end Go.Gg
