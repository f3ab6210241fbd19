/- Splits, calls, fields of elements, divisions, shifts, comparisons of slices with nil. Nothing of any one program is said here. -/
import Derived.Test.YtmgkpphbehamcaaGreatDoorGgG
import Derived.Laws.BitsLemmas
namespace Go.Gg
variable {P : Program} {B : World} {G G' G0 : GMap} {Γ Γ' Γ0 : List Chunk} {L L' : Env} {ty : TypeId} {n : Nat} {Q : Exit → Act → World → Prop} {ops : Array Oper}
variable {α : Type} {kd : Kd α}
theorem Fr.put_same {a : Act} {t : Nat} {b b' : Bool} (h : Fr n L a) (ht : L.lookup t = some (.bool b)) (e : b = b') : Fr n ((t, .bool b') :: L) a :=
 ⟨h.defers, h.size, fun s u hs => by
  simp only [List.lookup_cons] at hs
  split at hs
  ·rename_i e'; have e' : s = t := by simpa using e'
   subst e'; cases hs; rw [← e]; exact h.holds _ _ ht
  ·exact h.holds s u hs⟩
theorem WL.split {i : Nat} (t : Nat) {b : Bool} (ht : L.lookup t = some (.bool b)) (h1 : b = true → WL P ops Q i n ((t, .bool true) :: L) B G Γ) (h0 : b = false → WL P ops Q i n ((t, .bool false) :: L) B G Γ) : WL P ops Q i n L B G Γ :=
 fun a W hF hI => by
  cases hb : b with
  | true => exact h1 hb a W (hF.put_same ht hb) hI
  | false => exact h0 hb a W (hF.put_same ht hb) hI
theorem WA.split {kw m : Nat} {done : Array Bool} (t : Nat) {b : Bool} (ht : L.lookup t = some (.bool b)) (h1 : b = true → WA P ops Q kw m done n ((t, .bool true) :: L) B G0 Γ0 G Γ) (h0 : b = false → WA P ops Q kw m done n ((t, .bool false) :: L) B G0 Γ0 G Γ) :
  WA P ops Q kw m done n L B G0 Γ0 G Γ :=
 fun a W hF hI => by
  cases hb : b with
  | true => exact h1 hb a W (hF.put_same ht hb) hI
  | false => exact h0 hb a W (hF.put_same ht hb) hI
theorem WP.cutQ {x : Code} (M : Env → GMap → List Chunk → Prop) (hx : WP P x (Exit.then (Meet n B M) Q) n L B G Γ) (hy : ∀ L' G' Γ', M L' G' Γ' → QP Q .normal n L' B G' Γ') : WP P x Q n L B G Γ :=
 fun a W hF hI => wp_mono (hx a W hF hI) fun e a w h => by
  cases e <;> first | exact h | (obtain ⟨L', G', Γ', hM, hF', hI'⟩ := h; exact hy L' G' Γ' hM a w hF' hI')
theorem erase_sub (Γ : List Chunk) : ∀ i, List.Sublist (Γ.eraseIdx i).flatten Γ.flatten := by
 induction Γ with
 | nil => intro i; simp
 | cons C Γ ih =>
  intro i
  cases i with
  | zero => simp
  | succ i => simp only [List.eraseIdx_cons_succ, List.flatten_cons]; exact List.Sublist.append_left (ih i) C
theorem WP.dropAt {c : Code} (i : Nat) (h : WP P c Q n L B G (Γ.eraseIdx i)) : WP P c Q n L B G Γ := fun a W hF hI => h a W hF (hI.sub (erase_sub _ _))
theorem QP.dropAt {e : Exit} (i : Nat) (h : QP Q e n L B G (Γ.eraseIdx i)) : QP Q e n L B G Γ := fun a W hF hI => h a W hF (hI.sub (erase_sub _ _))
theorem WP.addNil {c : Code} (h : WP P c Q n L B G ([] :: Γ)) : WP P c Q n L B G Γ := fun a W hF hI => h a W hF (hI.perm (by simp))
theorem WL.addNil {i : Nat} (h : WL P ops Q i n L B G ([] :: Γ)) : WL P ops Q i n L B G Γ := fun a W hF hI => h a W hF (hI.perm (by simp))
theorem QP.addNil {e : Exit} (h : QP Q e n L B G ([] :: Γ)) : QP Q e n L B G Γ := fun a W hF hI => h a W hF (hI.perm (by simp))
theorem WA.addNil {kw m : Nat} {done : Array Bool} (h : WA P ops Q kw m done n L B G0 Γ0 G ([] :: Γ)) : WA P ops Q kw m done n L B G0 Γ0 G Γ := fun a W hF hI => h a W hF (hI.perm (by simp))
theorem QP.lower {e : Exit} (hG : G'.le G) (h : QP Q e n L B G' Γ) : QP Q e n L B G Γ := fun a W hF hI => h a W hF (hI.lower hG)
def Ret (B : World) (Φ : Value → GMap → List Chunk → Prop) (e : Ending) (w : World) : Prop := ∃ v G Γ, e = .returned v ∧ Φ v G Γ ∧ Inv B G Γ w
theorem Does.call {s : Sem Next} {f : FuncId} {args : List Value} {Φ : Value → GMap → List Chunk → Prop} (h : evq P s = some (.enter f args.toArray))
  (hc : ∀ W, Inv B G Γ W → Calls P f args.toArray W (Ret B Φ)) : Does P B G Γ s Φ := Does.enter h hc
theorem add_add (a : Addr) (m k : Nat) : (a.add m).add k = a.add (m + k) := by
 unfold Addr.add; by_cases hm : m = 0
 ·subst hm; simp
 ·by_cases hk : k = 0
  ·subst hk; simp
  ·have : ¬ m + k = 0 := by omega
   simp [hm, hk, Nat.add_assoc]
def fieldTy (P : Program) (s f : Nat) : Option Nat := match P.underlying s with
 | some (.struct fs) => match fs[f]? with
  | some f => match P.info? f.type with
   | some i => if i.size = 0 then none else some f.offset
   | none => none
  | none => none
 | _ => none
theorem Tells.fieldElem {s f off m : Nat} {x : Operand} {A : Option Addr} (hx : evalE L x = some (.pointer (A.map (·.add m)))) (hA : A.isSome = true) (hf : fieldTy P s f = some off) :
  Tells P B G Γ (exec1 (rho L) (.fieldAddr s x f) ty) (.pointer (A.map (·.add (m + off)))) := by
 obtain ⟨a, rfl⟩ := Option.isSome_iff_exists.1 hA; replace hx : evalE L x = some (.pointer (some (a.add m))) := hx; refine Tells.of_run (s := Instr.fieldAt s (rho L x) f) fun W _ => ?_
 rw [rho_of hx]; unfold fieldTy at hf
 split at hf
 ·rename_i fs hu
  split at hf
  ·rename_i fl hfl
   split at hf
   ·rename_i i hi
    split at hf
    ·cases hf
    ·rename_i hne
     cases hf
     simp [Instr.fieldAt, run_underlying hu, hfl, Instr.sureAddr, fieldPlace, sizeOf, typeInfo, hi, hne, add_add]
   ·cases hf
  ·cases hf
 ·cases hf
theorem Rd.loadF {A : Option Addr} {c : Nat} {xs : List α} (h : Rd kd G A c xs) {t : TypeId} {x : Operand} {agg : Bool} {j : Int} {off sz : Nat} (h0 : 0 ≤ j) (h1 : j < xs.length) (d : α)
  (ht : aggTy P t = some (agg, sz)) (ha : agg = false → sz = 1) (hle : off + sz ≤ kd.sz) (hx : evalE L x = some (.pointer (A.map (·.add (j.toNat * kd.sz + off))))) :
  ∃ cs, kd.rel G (xs.getD j.toNat d) cs ∧ Tells P B G Γ (exec1 (rho L) (.load t x) ty) (cellVal agg ((cs.drop off).take sz)) := by
 have hj : j.toNat < xs.length := by omega
 obtain ⟨ad, rfl, hs, cells, T, fr, hG, hl⟩ := h.2 (fun e => by subst e; simp at hj); obtain ⟨cs, hr, hc⟩ := hl j.toNat hj; have hcl := kd.len hr; refine ⟨cs, by simpa [List.getD_eq_getElem?_getD, List.getElem?_eq_getElem hj] using hr, ?_⟩; replace hx : evalE L x = some (.pointer (some (ad.add (j.toNat * kd.sz + off)))) := hx; refine Tells.load_at ht hx (by rw [add_off hs]) (by simp; omega) ha fun W hI i hi => ?_
 rw [add_off hs, cell_of_block (hI.fro _ _ hG)]; simp only [List.length_take, List.length_drop] at hi; have := hc (off + i) (by omega); simp only [List.getElem_take, List.getElem_drop]; rw [← this]
 congr 1
 omega
theorem Ow.loadF {A : Option Addr} {c : Nat} {xs : List α} {C : Chunk} (h : Ow kd G A c xs C) {i : Nat} (hi : Γ[i]? = some C) {t : TypeId} {x : Operand} {agg : Bool} {j : Int} {off sz : Nat} (h0 : 0 ≤ j) (h1 : j < xs.length) (d : α)
  (ht : aggTy P t = some (agg, sz)) (ha : agg = false → sz = 1) (hle : off + sz ≤ kd.sz) (hx : evalE L x = some (.pointer (A.map (·.add (j.toNat * kd.sz + off))))) :
  ∃ cs, kd.rel G (xs.getD j.toNat d) cs ∧ Tells P B G Γ (exec1 (rho L) (.load t x) ty) (cellVal agg ((cs.drop off).take sz)) := by
 have hj : j.toNat < xs.length := by omega
 rcases h.2 with ⟨_, e, _⟩ | ⟨b, cells, T, fr, rfl, rfl, hsz, _, hl⟩
 ·subst e; simp at hj
 obtain ⟨cs, hr, hc⟩ := hl j.toNat hj; have hcl := kd.len hr; refine ⟨cs, by simpa [List.getD_eq_getElem?_getD, List.getElem?_eq_getElem hj] using hr, ?_⟩; replace hx : evalE L x = some (.pointer (some ((⟨b, 0, none⟩ : Addr).add (j.toNat * kd.sz + off)))) := hx; refine Tells.load_at ht hx (by rw [add_off rfl]) (by simp; omega) ha fun W hI i' hi' => ?_
 rw [add_off rfl, cell_of_block (hI.chunk hi)]; simp only [List.length_take, List.length_drop] at hi'; have := hc (off + i') (by omega); simp only [List.getElem_take, List.getElem_drop]; rw [← this]
 congr 1
 omega
theorem Tells.cat {t u : TypeId} {x y : Operand} {a b : ByteArray} (hx : evalE L x = some (.string a)) (hy : evalE L y = some (.string b)) (hb : a.size + b.size ≤ 9223372036854775807) :
  Tells P B G Γ (exec1 (rho L) (.binOp .add t x y u) ty) (.string (a ++ b)) := by
 refine Tells.of_run (s := do eqGuard .add t x y (rho L x) (rho L y); binOp .add t (rho L x) (rho L y)) fun W _ => ?_
 rw [rho_of hx, rho_of hy]; have h : ¬ (((a.size + b.size : Nat) : Int) > IntKind.i64.max) := by simp [IntKind.max, IntKind.signed, IntKind.bits]; omega
 simp only [eqGuard, binOp, Op.stringOp]; rw [if_neg h]; simp [go_sem]
end Go.Gg
