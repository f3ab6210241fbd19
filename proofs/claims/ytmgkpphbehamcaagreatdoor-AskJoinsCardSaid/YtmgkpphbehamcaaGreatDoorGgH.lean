/- Splits, calls, fields of elements, divisions, shifts, comparisons of slices with nil. Nothing of any one program is said here. -/
import Derived.Test.YtmgkpphbehamcaaGreatDoorGgG
import Derived.Laws.BitsLemmas
namespace Go.Gg
variable {P : Program} {B : World} {G G' G0 : GMap} {Γ Γ' Γ0 : List Chunk} {L L' : Env} {ty : TypeId} {n : Nat} {Q : Exit → Act → World → Prop} {ops : Array Oper}
variable {α : Type} {kd : Kd α}
theorem Fr.put_same {a : Act} {t : Nat} {b b' : Bool} (h : Fr n L a) (ht : L.lookup t = some (.bool b)) (e : b = b') : Fr n ((t, .bool b') :: L) a :=
 ⟨h.defers, h.size, fun s u hs => by
  simp only [List.lookup_cons] at hs
  split at hs
  ·rename_i e'; have e' : s = t := by simpa using e'
   subst e'; cases hs; rw [← e]; exact h.holds _ _ ht
  ·exact h.holds s u hs⟩
theorem WL.split {i : Nat} (t : Nat) {b : Bool} (ht : L.lookup t = some (.bool b)) (h1 : b = true → WL P ops Q i n ((t, .bool true) :: L) B G Γ) (h0 : b = false → WL P ops Q i n ((t, .bool false) :: L) B G Γ) : WL P ops Q i n L B G Γ :=
 fun a W hF hI => by
  cases hb : b with
  | true => exact h1 hb a W (hF.put_same ht hb) hI
  | false => exact h0 hb a W (hF.put_same ht hb) hI
theorem WA.split {kw m : Nat} {done : Array Bool} (t : Nat) {b : Bool} (ht : L.lookup t = some (.bool b)) (h1 : b = true → WA P ops Q kw m done n ((t, .bool true) :: L) B G0 Γ0 G Γ) (h0 : b = false → WA P ops Q kw m done n ((t, .bool false) :: L) B G0 Γ0 G Γ) :
  WA P ops Q kw m done n L B G0 Γ0 G Γ :=
 fun a W hF hI => by
  cases hb : b with
  | true => exact h1 hb a W (hF.put_same ht hb) hI
  | false => exact h0 hb a W (hF.put_same ht hb) hI
theorem WP.cutQ {x : Code} (M : Env → GMap → List Chunk → Prop) (hx : WP P x (Exit.then (Meet n B M) Q) n L B G Γ) (hy : ∀ L' G' Γ', M L' G' Γ' → QP Q .normal n L' B G' Γ') : WP P x Q n L B G Γ :=
 fun a W hF hI => wp_mono (hx a W hF hI) fun e a w h => by
  cases e <;> first | exact h | (obtain ⟨L', G', Γ', hM, hF', hI'⟩ := h; exact hy L' G' Γ' hM a w hF' hI')
theorem erase_sub (Γ : List Chunk) : ∀ i, List.Sublist (Γ.eraseIdx i).flatten Γ.flatten := by
 induction Γ with
 | nil => intro i; simp
 | cons C Γ ih =>
  intro i
  cases i with
  | zero => simp
  | succ i => simp only [List.eraseIdx_cons_succ, List.flatten_cons]; exact List.Sublist.append_left (ih i) C
theorem WP.dropAt {c : Code} (i : Nat) (h : WP P c Q n L B G (Γ.eraseIdx i)) : WP P c Q n L B G Γ := fun a W hF hI => h a W hF (hI.sub (erase_sub _ _))
theorem QP.dropAt {e : Exit} (i : Nat) (h : QP Q e n L B G (Γ.eraseIdx i)) : QP Q e n L B G Γ := fun a W hF hI => h a W hF (hI.sub (erase_sub _ _))
theorem WP.addNil {c : Code} (h : WP P c Q n L B G ([] :: Γ)) : WP P c Q n L B G Γ := fun a W hF hI => h a W hF (hI.perm (by simp))
theorem WL.addNil {i : Nat} (h : WL P ops Q i n L B G ([] :: Γ)) : WL P ops Q i n L B G Γ := fun a W hF hI => h a W hF (hI.perm (by simp))
theorem QP.addNil {e : Exit} (h : QP Q e n L B G ([] :: Γ)) : QP Q e n L B G Γ := fun a W hF hI => h a W hF (hI.perm (by simp))
theorem WA.addNil {kw m : Nat} {done : Array Bool} (h : WA P ops Q kw m done n L B G0 Γ0 G ([] :: Γ)) : WA P ops Q kw m done n L B G0 Γ0 G Γ := fun a W hF hI => h a W hF (hI.perm (by simp))
theorem QP.lower {e : Exit} (hG : G'.le G) (h : QP Q e n L B G' Γ) : QP Q e n L B G Γ := fun a W hF hI => h a W hF (hI.lower hG)
def Ret (B : World) (Φ : Value → GMap → List Chunk → Prop) (e : Ending) (w : World) : Prop := ∃ v G Γ, e = .returned v ∧ Φ v G Γ ∧ Inv B G Γ w
theorem Does.call {s : Sem Next} {f : FuncId} {args : List Value} {Φ : Value → GMap → List Chunk → Prop} (h : evq P s = some (.enter f args.toArray))
  (hc : ∀ W, Inv B G Γ W → Calls P f args.toArray W (Ret B Φ)) : Does P B G Γ s Φ := Does.enter h hc
theorem add_add (a : Addr) (m k : Nat) : (a.add m).add k = a.add (m + k) := by
 unfold Addr.add; by_cases hm : m = 0
 ·subst hm; simp
 ·by_cases hk : k = 0
  ·subst hk; simp
  ·have : ¬ m + k = 0 := by omega
   simp [hm, hk, Nat.add_assoc]
theorem Tells.cat {t u : TypeId} {x y : Operand} {a b : ByteArray} (hx : evalE L x = some (.string a)) (hy : evalE L y = some (.string b)) (hb : a.size + b.size ≤ 9223372036854775807) :
  Tells P B G Γ (exec1 (rho L) (.binOp .add t x y u) ty) (.string (a ++ b)) := by
 refine Tells.of_run (s := do eqGuard .add t x y (rho L x) (rho L y); binOp .add t (rho L x) (rho L y)) fun W _ => ?_
 rw [rho_of hx, rho_of hy]; have h : ¬ (((a.size + b.size : Nat) : Int) > IntKind.i64.max) := by simp [IntKind.max, IntKind.signed, IntKind.bits]; omega
 simp only [eqGuard, binOp, Op.stringOp]; rw [if_neg h]; simp [go_sem]
end Go.Gg
