/- The base of the walks: frames as lists of what their places hold, memory as frozen blocks and owned blocks, and the rules for code that follow from the kit's own. Nothing of any one program is said here. -/
import Derived.Tactics
import Derived.Orders
import Derived.KernelRfl
import Derived.RowKit
import Derived.Below
namespace Go.Gg
def evq {α : Type} (P : Program) : Sem α → Option α
 | .pure a => some a
 | .program k => evq P (k P)
 | _ => none
theorem evq_run {α : Type} {P : Program} {s : Sem α} {a : α} (h : evq P s = some a) (W : World) : s.run P W = .ok a W := by
 induction s with
 | pure b => simp [evq] at h; subst h; rfl
 | program k ih => exact ih P h
 | _ => simp [evq] at h
abbrev Env := List (Nat × Value)
structure Fr (n : Nat) (L : Env) (a : Act) : Prop where
 defers : a.defers = []
 size : a.tmps.size = n
 holds : ∀ t v, L.lookup t = some v → a.tmps[t]? = some v
def evalE (L : Env) : Operand → Option Value
 | .tmp t => L.lookup t
 | .const v => some v
 | .global g => some (.pointer (some ⟨g, 0, none⟩))
 | .func f => some (.func (.func f) #[] #[])
def rho (L : Env) (x : Operand) : Value := (evalE L x).getD undef
def known (L : Env) (o : Op) : Bool := o.operands.toList.all fun x => (evalE L x).isSome
theorem Fr.eval {n : Nat} {L : Env} {a : Act} (h : Fr n L a) {x : Operand} {v : Value} (hx : evalE L x = some v) : a.eval x = v := by
 cases x with
 | tmp t => simp only [evalE] at hx; simp [Act.eval, h.holds t v hx]
 | const u => simpa [evalE, Act.eval] using hx
 | global g => simpa [evalE, Act.eval] using hx
 | func f => simpa [evalE, Act.eval] using hx
theorem Fr.rho {n : Nat} {L : Env} {a : Act} (h : Fr n L a) {x : Operand} (hx : (evalE L x).isSome = true) : a.eval x = Gg.rho L x := by
 obtain ⟨v, hv⟩ := Option.isSome_iff_exists.1 hx; rw [h.eval hv]; simp [Gg.rho, hv]
def notSelect : Op → Bool
 | .select .. => false
 | _ => true
theorem Fr.exec {n : Nat} {L : Env} {a : Act} (h : Fr n L a) {o : Oper} (hk : known L o.op = true) (hs : notSelect o.op = true) : execOp a.eval o = execOp (Gg.rho L) o := by
 refine execOp_congr o (fun cs b e => by rw [e] at hs; cases hs) fun x hx => h.rho ?_
 simp only [known, List.all_eq_true] at hk; exact hk x (by simpa using hx)
def putE (L : Env) (d : Option Nat) (v : Value) : Env :=
 match d with
 | some t => (t, v) :: L
 | none => L
def fits (n : Nat) : Option Nat → Bool
 | some t => decide (t < n)
 | none => true
theorem Fr.put {n : Nat} {L : Env} {a : Act} (h : Fr n L a) {d : Option Nat} (hd : fits n d = true) (v : Value) : Fr n (putE L d v) (a.put d v) := by
 cases d with
 | none => exact h
 | some t =>
  have ht : t < n := by simpa [fits] using hd
  refine ⟨h.defers, by simp [Act.put, h.size], fun s u hs => ?_⟩; simp only [putE, List.lookup_cons] at hs
  split at hs
  ·rename_i e
   have e : s = t := by simpa using e
   subst e
   cases hs
   simp [Act.put, h.size, ht]
  ·rename_i e
   have e : t ≠ s := fun e' => by subst e'; simp at e
   simp only [Act.put]; rw [Array.getElem?_setIfInBounds_ne e]; exact h.holds s u hs
def pickE (ks : List Nat) (L : Env) : Env := ks.filterMap fun k => (L.lookup k).map (k, ·)
theorem pickE_lookup (ks : List Nat) (L : Env) {t : Nat} {v : Value} (h : (pickE ks L).lookup t = some v) : L.lookup t = some v := by
 induction ks with
 | nil => simp [pickE] at h
 | cons k ks ih =>
  simp only [pickE, List.filterMap_cons] at h
  cases hk : L.lookup k with
  | none => rw [hk] at h; exact ih (by simpa [pickE] using h)
  | some u =>
   rw [hk] at h; simp only [Option.map_some, List.lookup_cons] at h
   split at h
   ·rename_i e
    have e : t = k := by simpa using e
    subst e; rw [hk]; exact h
   ·exact ih (by simpa [pickE] using h)
theorem Fr.pick {n : Nat} {L : Env} {a : Act} (h : Fr n L a) (ks : List Nat) : Fr n (pickE ks L) a :=
 ⟨h.defers, h.size, fun t v ht => h.holds t v (pickE_lookup ks L ht)⟩
abbrev GMap := Nat → Option Obj
abbrev Chunk := List (Nat × Obj)
structure Inv (B : World) (G : GMap) (Γ : List Chunk) (W : World) : Prop where
 os : W.os = B.os
 out : W.output = B.output
 tape : W.tape = B.tape
 fro : ∀ b o, G b = some o → W.heap[b]? = some o
 own : ∀ p ∈ Γ.flatten, W.heap[p.1]? = some p.2
 nd : (Γ.flatten.map (·.1)).Nodup
 ap : ∀ p ∈ Γ.flatten, G p.1 = none
def GMap.le (G G' : GMap) : Prop := ∀ b o, G b = some o → G' b = some o
theorem GMap.le_refl (G : GMap) : G.le G := fun _ _ h => h
theorem GMap.le_trans {G G' G'' : GMap} (h : G.le G') (h' : G'.le G'') : G.le G'' := fun b o e => h' b o (h b o e)
variable {P : Program} {B : World} {G G' : GMap} {Γ Γ' : List Chunk} {W W' : World}
theorem Inv.lt (h : Inv B G Γ W) {p : Nat × Obj} (hp : p ∈ Γ.flatten) : p.1 < W.heap.size := by
 have := h.own p hp; exact (Array.getElem?_eq_some_iff.1 this).1
theorem Inv.ltG (h : Inv B G Γ W) {b : Nat} {o : Obj} (hb : G b = some o) : b < W.heap.size :=
 (Array.getElem?_eq_some_iff.1 (h.fro b o hb)).1
theorem Inv.drawn (h : Inv B G Γ W) (d : Nat) : Inv B G Γ { W with drawn := d } := ⟨h.os, h.out, h.tape, h.fro, h.own, h.nd, h.ap⟩
theorem Inv.sub (h : Inv B G Γ W) (hs : List.Sublist Γ'.flatten Γ.flatten) : Inv B G Γ' W :=
 ⟨h.os, h.out, h.tape, h.fro, fun p hp => h.own p (hs.subset hp), (hs.map _).nodup h.nd, fun p hp => h.ap p (hs.subset hp)⟩
theorem Inv.perm (h : Inv B G Γ W) (hs : Γ.flatten.Perm Γ'.flatten) : Inv B G Γ' W :=
 ⟨h.os, h.out, h.tape, h.fro, fun p hp => h.own p (hs.mem_iff.2 hp), (hs.map _).nodup_iff.1 h.nd, fun p hp => h.ap p (hs.mem_iff.2 hp)⟩
theorem Inv.lower (h : Inv B G' Γ W) (hG : G.le G') : Inv B G Γ W :=
 ⟨h.os, h.out, h.tape, fun b o e => h.fro b o (hG b o e), h.own, h.nd, fun p hp => by
  cases e : G p.1 with
  | none => rfl
  | some o => have := hG _ _ e; rw [h.ap p hp] at this; cases this⟩
theorem Inv.alloc (h : Inv B G Γ W) (o : Obj) : Inv B G ([(W.heap.size, o)] :: Γ) { W with heap := W.heap.push o } := by
 have hlt : ∀ p ∈ Γ.flatten, p.1 < W.heap.size := fun p hp => h.lt hp
 refine ⟨h.os, h.out, h.tape, fun b o' e => ?_, fun p hp => ?_, ?_, fun p hp => ?_⟩
 ·have := h.ltG e; simp only [Array.getElem?_push]; rw [if_neg (by omega)]; exact h.fro b o' e
 ·simp only [List.flatten_cons, List.cons_append, List.nil_append, List.mem_cons] at hp; rcases hp with rfl | hp
  ·simp
  ·have := hlt p hp; simp only [Array.getElem?_push]; rw [if_neg (by omega)]; exact h.own p hp
 ·simp only [List.flatten_cons, List.cons_append, List.nil_append, List.map_cons, List.nodup_cons]; refine ⟨fun hm => ?_, h.nd⟩; obtain ⟨p, hp, e⟩ := List.mem_map.1 hm; have := hlt p hp; omega
 ·simp only [List.flatten_cons, List.cons_append, List.nil_append, List.mem_cons] at hp; rcases hp with rfl | hp
  ·cases e : G W.heap.size with
   | none => rfl
   | some o' => have := h.ltG e; omega
  ·exact h.ap p hp
theorem Inv.write {b : Nat} {o o' : Obj} (h : Inv B G ([(b, o)] :: Γ) W) {W' : World} (hos : W'.os = W.os) (hout : W'.output = W.output) (ht : W'.tape = W.tape)
  (hb : W'.heap[b]? = some o') (hr : ∀ k, k ≠ b → W'.heap[k]? = W.heap[k]?) : Inv B G ([(b, o')] :: Γ) W' := by
 have hnd := h.nd; simp only [List.flatten_cons, List.cons_append, List.nil_append, List.map_cons, List.nodup_cons] at hnd; have hG : G b = none := h.ap (b, o) (by simp); refine ⟨hos.trans h.os, hout.trans h.out, ht.trans h.tape, fun k q e => ?_, fun p hp => ?_, ?_, fun p hp => ?_⟩
 ·rw [hr k (fun e' => by subst e'; rw [hG] at e; cases e)]; exact h.fro k q e
 ·simp only [List.flatten_cons, List.cons_append, List.nil_append, List.mem_cons] at hp; rcases hp with rfl | hp
  ·exact hb
  ·rw [hr p.1 (fun e' => hnd.1 (List.mem_map.2 ⟨p, hp, e'⟩))]; exact h.own p (by simp [hp])
 ·simpa using hnd
 ·simp only [List.flatten_cons, List.cons_append, List.nil_append, List.mem_cons] at hp; rcases hp with rfl | hp
  ·exact hG
  ·exact h.ap p (by simp [hp])
def GMap.add (G : GMap) (C : Chunk) : GMap := fun b => match C.lookup b with | some o => some o | none => G b
theorem lookup_mem {C : Chunk} {b : Nat} {o : Obj} (h : C.lookup b = some o) : (b, o) ∈ C := by
 induction C with
 | nil => simp at h
 | cons p C ih =>
  obtain ⟨c, q⟩ := p; simp only [List.lookup_cons] at h
  split at h
  ·rename_i e; have e : b = c := by simpa using e
   cases h; subst e; simp
  ·exact List.mem_cons_of_mem _ (ih h)
theorem Inv.freeze {C : Chunk} (h : Inv B G (C :: Γ) W) : Inv B (G.add C) Γ W ∧ G.le (G.add C) := by
 have hnd := h.nd; simp only [List.flatten_cons, List.map_append] at hnd; refine ⟨⟨h.os, h.out, h.tape, fun b o e => ?_, fun p hp => h.own p (by simp only [List.flatten_cons, List.mem_append]; exact .inr hp), (List.nodup_append.1 hnd).2.1, fun p hp => ?_⟩, fun b o e => ?_⟩
 ·simp only [GMap.add] at e
  split at e
  ·rename_i q hq; cases e; exact h.own (b, o) (by simp only [List.flatten_cons, List.mem_append]; exact .inl (lookup_mem hq))
  ·exact h.fro b o e
 ·simp only [GMap.add]
  split
  ·rename_i q hq
   have h1 := lookup_mem hq; exact absurd rfl ((List.nodup_append.1 hnd).2.2 p.1 (List.mem_map.2 ⟨_, h1, rfl⟩) p.1 (List.mem_map.2 ⟨p, hp, rfl⟩))
  ·exact h.ap p (by simp only [List.flatten_cons, List.mem_append]; exact .inr hp)
 ·simp only [GMap.add]
  split
  ·rename_i q hq
   have h1 := lookup_mem hq; have := h.ap (b, q) (by simp only [List.flatten_cons, List.mem_append]; exact .inl h1); simp only at this; rw [e] at this; cases this
  ·exact e
def GMap.minus (G : GMap) (C : Chunk) : GMap := fun b => if (C.map (·.1)).contains b then none else G b
theorem nodup_lookup {C : Chunk} (hnd : (C.map (·.1)).Nodup) {p : Nat × Obj} (hp : p ∈ C) : C.lookup p.1 = some p.2 := by
 induction C with
 | nil => cases hp
 | cons q C ih =>
  obtain ⟨c, o⟩ := q; simp only [List.map_cons, List.nodup_cons] at hnd; simp only [List.lookup_cons]; rcases List.mem_cons.1 hp with rfl | hp
  ·simp
  ·have : p.1 ≠ c := fun e => hnd.1 (e ▸ List.mem_map.2 ⟨p, hp, rfl⟩)
   have e : (p.1 == c) = false := by simpa using this
   rw [e]; exact ih hnd.2 hp
theorem Inv.thaw {C : Chunk} (hnd : (C.map (·.1)).Nodup) (hap : ∀ p ∈ C, G p.1 = none) (hle : (G.add C).le G') (h : Inv B G' Γ W) :
  Inv B (G'.minus C) (C :: Γ) W ∧ G.le (G'.minus C) := by
 have hC : ∀ p ∈ C, G' p.1 = some p.2 := fun p hp => hle p.1 p.2 (by simp [GMap.add, nodup_lookup hnd hp])
 refine ⟨⟨h.os, h.out, h.tape, fun b o e => ?_, fun p hp => ?_, ?_, fun p hp => ?_⟩, fun b o e => ?_⟩
 ·simp only [GMap.minus] at e
  split at e
  ·cases e
  ·exact h.fro b o e
 ·simp only [List.flatten_cons, List.mem_append] at hp; rcases hp with hp | hp
  ·exact h.fro p.1 p.2 (hC p hp)
  ·exact h.own p hp
 ·simp only [List.flatten_cons, List.map_append]; refine List.nodup_append.2 ⟨hnd, h.nd, fun x hx y hy e => ?_⟩; obtain ⟨p, hp, rfl⟩ := List.mem_map.1 hx; obtain ⟨q, hq, rfl⟩ := List.mem_map.1 hy; have h1 := hC p hp; have h2 := h.ap q hq; rw [← e, h1] at h2; cases h2
 ·simp only [List.flatten_cons, List.mem_append] at hp; simp only [GMap.minus]
  split
  ·rfl
  ·rename_i hn
   rcases hp with hp | hp
   ·exact absurd (by simpa using ⟨p.2, hp⟩) hn
   ·exact h.ap p hp
 ·simp only [GMap.minus]
  split
  ·rename_i hc
   have hc : b ∈ C.map (·.1) := by simpa using hc
   obtain ⟨p, hp, rfl⟩ := List.mem_map.1 hc; rw [hap p hp] at e; cases e
  ·refine hle b o ?_
   rename_i hn
   simp only [GMap.add]
   split
   ·rename_i q hq
    exact absurd (by simpa using ⟨q, lookup_mem hq⟩) hn
   ·exact e
def nextVal : Next → Option Value
 | .value v => some v
 | .skip => some undef
 | _ => none
def Does (P : Program) (B : World) (G : GMap) (Γ : List Chunk) (s : Sem Next) (Φ : Value → GMap → List Chunk → Prop) : Prop :=
 ∀ W, Inv B G Γ W →
  (∃ r v W' G' Γ', s.run P W = .ok r W' ∧ nextVal r = some v ∧ Φ v G' Γ' ∧ Inv B G' Γ' W') ∨
  (∃ f args W1, s.run P W = .ok (.enter f args) W1 ∧ Calls P f args W1 fun e W' => ∃ v G' Γ', e = .returned v ∧ Φ v G' Γ' ∧ Inv B G' Γ' W')
def Tells (P : Program) (B : World) (G : GMap) (Γ : List Chunk) (s : Sem Next) (v : Value) : Prop :=
 ∀ W, Inv B G Γ W → s.run P W = .ok (.value v) W
theorem Tells.does {s : Sem Next} {v : Value} (h : Tells P B G Γ s v) : Does P B G Γ s fun v' G' Γ' => v' = v ∧ G' = G ∧ Γ' = Γ :=
 fun W hI => .inl ⟨_, v, W, G, Γ, h W hI, rfl, ⟨rfl, rfl, rfl⟩, hI⟩
def opAt (ops : Array Oper) (i : Nat) : Option (Op × TypeId × Option Nat × Option (Nat × Bool)) := (ops[i]?).map fun o => (o.op, o.type, o.dst, o.guard)
def exec1 (ρ : Operand → Value) (op : Op) (ty : TypeId) : Sem Next := execOp ρ { dst := none, op, type := ty, pos := "", after := #[], guard := none }
theorem execOp_exec1 (ρ : Operand → Value) (o : Oper) : execOp ρ o = exec1 ρ o.op o.type := by
 obtain ⟨d, op, ty, pos, after, guard⟩ := o
 cases op <;> rfl
theorem opAt_some {ops : Array Oper} {i : Nat} {op : Op} {ty : TypeId} {d : Option Nat} {g : Option (Nat × Bool)} (h : opAt ops i = some (op, ty, d, g)) :
  ∃ o, ops[i]? = some o ∧ o.op = op ∧ o.type = ty ∧ o.dst = d ∧ o.guard = g := by
 obtain ⟨o, ho, e⟩ := Option.map_eq_some_iff.1 h; simp only [Prod.mk.injEq] at e; exact ⟨o, ho, e.1, e.2.1, e.2.2.1, e.2.2.2⟩
section rules
variable {n : Nat} {L L' : Env} {Q : Exit → Act → World → Prop} {ops : Array Oper}
def WP (P : Program) (c : Code) (Q : Exit → Act → World → Prop) (n : Nat) (L : Env) (B : World) (G : GMap) (Γ : List Chunk) : Prop :=
 ∀ a W, Fr n L a → Inv B G Γ W → c.wp P Q a W
def WL (P : Program) (ops : Array Oper) (Q : Exit → Act → World → Prop) (i : Nat) (n : Nat) (L : Env) (B : World) (G : GMap) (Γ : List Chunk) : Prop :=
 ∀ a W, Fr n L a → Inv B G Γ W → wpList P ops Q (ops.toList.drop i) a W
def QP (Q : Exit → Act → World → Prop) (e : Exit) (n : Nat) (L : Env) (B : World) (G : GMap) (Γ : List Chunk) : Prop :=
 ∀ a W, Fr n L a → Inv B G Γ W → Q e a W
theorem WP.seq {x y : Code} (h : WP P x (Exit.then (fun a w => y.wp P Q a w) Q) n L B G Γ) : WP P (.seq x y) Q n L B G Γ :=
 fun a W hF hI => wp_seq (h a W hF hI)
theorem WP.region {id : Nat} (h : WL P ops Q 0 n L B G Γ) : WP P (.region id ops false) Q n L B G Γ :=
 fun a W hF hI => wp_region_list (by simpa using h a W hF hI)
theorem WP.seqR {id : Nat} {y : Code} (h : WL P ops (Exit.then (fun a w => y.wp P Q a w) Q) 0 n L B G Γ) : WP P (.seq (.region id ops false) y) Q n L B G Γ :=
 WP.seq (WP.region h)
theorem WP.skip (h : QP Q .normal n L B G Γ) : WP P .skip Q n L B G Γ := fun a W hF hI => wp_skip (h a W hF hI)
theorem WP.ret (h : QP Q .ret n L B G Γ) : WP P .ret Q n L B G Γ := fun a W hF hI => wp_ret (h a W hF hI)
theorem WP.exit {id : Nat} (h : QP Q (.exit id) n L B G Γ) : WP P (.exit id) Q n L B G Γ := fun a W hF hI => wp_exit (h a W hF hI)
theorem WP.block {id : Nat} {c : Code} (h : WP P c (Exit.inBlock id Q) n L B G Γ) : WP P (.block id c) Q n L B G Γ := fun a W hF hI => wp_block (h a W hF hI)
theorem WP.cond {c : Operand} {x y : Code} {b : Bool} (hc : evalE L c = some (.bool b)) (ht : b = true → WP P x Q n L B G Γ) (hf : b = false → WP P y Q n L B G Γ) :
  WP P (.cond c x y) Q n L B G Γ :=
 fun a W hF hI => wp_cond_split (hF.eval hc) (fun h => ht h a W hF hI) (fun h => hf h a W hF hI)
theorem WP.yes {c : Operand} {x y : Code} (hc : evalE L c = some (.bool true)) (ht : WP P x Q n L B G Γ) : WP P (.cond c x y) Q n L B G Γ :=
 WP.cond hc (fun _ => ht) (fun h => by cases h)
theorem WP.no {c : Operand} {x y : Code} (hc : evalE L c = some (.bool false)) (hf : WP P y Q n L B G Γ) : WP P (.cond c x y) Q n L B G Γ :=
 WP.cond hc (fun h => by cases h) (fun _ => hf)
theorem WP.pick (ks : List Nat) {c : Code} (h : WP P c Q n (pickE ks L) B G Γ) : WP P c Q n L B G Γ := fun a W hF hI => h a W (hF.pick ks) hI
theorem WP.mono {c : Code} {Q' : Exit → Act → World → Prop} (h : WP P c Q' n L B G Γ) (hq : ∀ e a w, Q' e a w → Q e a w) : WP P c Q n L B G Γ :=
 fun a W hF hI => wp_mono (h a W hF hI) hq
theorem WP.perm {c : Code} (hp : Γ.flatten.Perm Γ'.flatten) (h : WP P c Q n L B G Γ') : WP P c Q n L B G Γ := fun a W hF hI => h a W hF (hI.perm hp)
theorem QP.next {y : Code} (h : WP P y Q n L B G Γ) : QP (Exit.then (fun a w => y.wp P Q a w) Q) .normal n L B G Γ := h
theorem QP.pick (ks : List Nat) {e : Exit} (h : QP Q e n (pickE ks L) B G Γ) : QP Q e n L B G Γ := fun a W hF hI => h a W (hF.pick ks) hI
theorem WL.done {i : Nat} (hi : ops.size ≤ i) (h : QP Q .normal n L B G Γ) : WL P ops Q i n L B G Γ := by
 intro a W hF hI; rw [List.drop_eq_nil_of_le (by simpa using hi)]; exact h a W hF hI
theorem drop_at {i : Nat} {o : Oper} (h : ops[i]? = some o) : ops.toList.drop i = o :: ops.toList.drop (i + 1) := by
 have h1 : ops.toList[i]? = some o := by simpa using h
 obtain ⟨hl, e⟩ := List.getElem?_eq_some_iff.1 h1; rw [List.drop_eq_getElem_cons hl, e]
def wantedE (ops : Array Oper) (L : Env) : Option (Nat × Bool) → Option Bool
 | none => some true
 | some (j, want) => match ((ops[j]?).bind (·.dst)).bind (L.lookup ·) with
  | some (.bool b) => some (b == want)
  | some (.tuple _) => some false
  | _ => none
theorem Fr.wanted {a : Act} (h : Fr n L a) {o : Oper} {b : Bool} (hw : wantedE ops L o.guard = some b) : Region.wanted o (yielded ops a.tmps) = b := by
 unfold Region.wanted; unfold wantedE at hw
 split at hw
 ·rename_i e; rw [e]; cases hw; rfl
 ·rename_i j want e
  rw [e]; simp only
  split at hw
  ·rename_i b' hb
   obtain ⟨t, ht, hl⟩ := Option.bind_eq_some_iff.1 hb
   cases hw
   have : yielded ops a.tmps j = some b' := by
    unfold yielded; rw [ht]; simp [h.holds t _ hl]
   rw [this]; rw [Bool.eq_iff_iff]; simp
  ·rename_i u hb
   obtain ⟨t, ht, hl⟩ := Option.bind_eq_some_iff.1 hb
   cases hw
   have : yielded ops a.tmps j = none := by
    unfold yielded; rw [ht]; simp [h.holds t _ hl]
   rw [this]; simp
  ·cases hw
theorem WL.op {i : Nat} {op : Op} {ty : TypeId} {d : Option Nat} {g : Option (Nat × Bool)} {Φ : Value → GMap → List Chunk → Prop}
  (ho : opAt ops i = some (op, ty, d, g)) (hg : wantedE ops L g = some true) (hk : (known L op && notSelect op && fits n d) = true)
  (hs : Does P B G Γ (exec1 (rho L) op ty) Φ)
  (next : ∀ v G' Γ', Φ v G' Γ' → WL P ops Q (i + 1) n (putE L d v) B G' Γ') : WL P ops Q i n L B G Γ := by
 intro a W hF hI; obtain ⟨o, hoi, rfl, rfl, rfl, rfl⟩ := opAt_some ho; simp only [Bool.and_eq_true] at hk; rw [drop_at hoi]; unfold wpList; rw [if_pos (hF.wanted hg)]; refine .inl ?_; unfold Oper.wp; rw [hF.exec hk.1.1 hk.1.2, execOp_exec1]; rcases hs W hI with ⟨r, v, W', G', Γ', hr, hv, hφ, hI'⟩ | ⟨f, args, W1, hr, hc⟩
 ·rw [hr]
  cases r <;> simp [nextVal] at hv
  ·subst hv; exact next _ G' Γ' hφ _ _ (hF.put hk.2 _) hI'
  ·subst hv; exact next _ G' Γ' hφ _ _ (hF.put hk.2 _) hI'
 ·rw [hr]; simp only [Oper.upon]; refine hc.mono ?_; rintro e W' ⟨v, G', Γ', rfl, hφ, hI'⟩; exact next v G' Γ' hφ _ _ (hF.put hk.2 v) hI'
theorem WL.tell {i : Nat} {op : Op} {ty : TypeId} {d : Option Nat} {g : Option (Nat × Bool)} {v : Value}
  (ho : opAt ops i = some (op, ty, d, g)) (hg : wantedE ops L g = some true) (hk : (known L op && notSelect op && fits n d) = true)
  (hs : Tells P B G Γ (exec1 (rho L) op ty) v)
  (next : WL P ops Q (i + 1) n (putE L d v) B G Γ) : WL P ops Q i n L B G Γ :=
 WL.op ho hg hk hs.does (by rintro _ _ _ ⟨rfl, rfl, rfl⟩; exact next)
theorem WL.pass {i : Nat} {op : Op} {ty : TypeId} {d : Option Nat} {g : Option (Nat × Bool)}
  (ho : opAt ops i = some (op, ty, d, g)) (hg : wantedE ops L g = some false) (hk : fits n d = true)
  (next : WL P ops Q (i + 1) n (putE L d undef) B G Γ) : WL P ops Q i n L B G Γ := by
 intro a W hF hI; obtain ⟨o, hoi, rfl, rfl, rfl, rfl⟩ := opAt_some ho; rw [drop_at hoi]; unfold wpList; rw [if_neg (by rw [hF.wanted hg]; simp)]; exact next _ _ (hF.put hk _) hI
def stepP (P : Program) (ops : Array Oper) (n : Nat) (L : Env) (o : Oper) : Option Env :=
 match wantedE ops L o.guard with
 | some true =>
  if known L o.op && notSelect o.op && fits n o.dst then
   match evq P (execOp (rho L) o) with
   | some (.value v) => some (putE L o.dst v)
   | _ => none
  else none
 | some false => if fits n o.dst then some (putE L o.dst undef) else none
 | none => none
def runP (P : Program) (ops : Array Oper) (n : Nat) : Env → List Oper → Option Env
 | L, [] => some L
 | L, o :: r => match stepP P ops n L o with
  | some L' => runP P ops n L' r
  | none => none
theorem runP_sound {K : List Oper} : ∀ (l : List Oper) (L : Env) {L' : Env}, runP P ops n L l = some L' →
  (∀ a W, Fr n L' a → Inv B G Γ W → wpList P ops Q K a W) → ∀ a W, Fr n L a → Inv B G Γ W → wpList P ops Q (l ++ K) a W
 | [], L, L', h, next => by simp [runP] at h; subst h; exact next
 | o :: l, L, L', h, next => by
  intro a W hF hI; simp only [runP] at h
  split at h
  ·rename_i L1 h1
   have more := runP_sound l L1 h next; simp only [List.cons_append]; unfold stepP at h1; unfold wpList
   split at h1
   ·rename_i hw
    rw [if_pos (hF.wanted hw)]
    split at h1
    ·rename_i hk
     simp only [Bool.and_eq_true] at hk
     split at h1
     ·rename_i v hv
      cases h1
      refine .inl ?_; unfold Oper.wp; rw [hF.exec hk.1.1 hk.1.2, evq_run hv W]; exact more _ _ (hF.put hk.2 v) hI
     ·cases h1
    ·cases h1
   ·rename_i hw
    rw [if_neg (by rw [hF.wanted hw]; simp)]
    split at h1
    ·rename_i hk; cases h1; exact more _ _ (hF.put hk _) hI
    ·cases h1
   ·cases h1
  ·cases h
theorem WL.pure (i j : Nat) (ks : List Nat) {L' : Env} (h : (runP P ops n L ((ops.toList.drop i).take (j - i))).map (pickE ks) = some L') (hij : i ≤ j)
  (next : WL P ops Q j n L' B G Γ) : WL P ops Q i n L B G Γ := by
 obtain ⟨L1, h1, e⟩ := Option.map_eq_some_iff.1 h; intro a W hF hI; have hd : ops.toList.drop i = (ops.toList.drop i).take (j - i) ++ ops.toList.drop j := by
  conv => lhs; rw [← List.take_append_drop (j - i) (ops.toList.drop i)]
  rw [List.drop_drop, show i + (j - i) = j by omega]
 rw [hd]; refine runP_sound _ L h1 (fun a W hF hI => ?_) a W hF hI; exact next a W (by rw [← e]; exact hF.pick ks) hI
theorem WL.rest (i : Nat) (ks : List Nat) {L' : Env} (h : (runP P ops n L (ops.toList.drop i)).map (pickE ks) = some L')
  (next : QP Q .normal n L' B G Γ) : WL P ops Q i n L B G Γ := by
 obtain ⟨L1, h1, e⟩ := Option.map_eq_some_iff.1 h; intro a W hF hI; have := runP_sound (K := []) _ L h1 (fun a W hF hI => show wpList P ops Q [] a W from next a W (by rw [← e]; exact hF.pick ks) hI) a W hF hI; simpa using this
theorem wp_loopF {c : Code} (J : Nat → Act → World → Prop) (round : ∀ k a w, J k a w → c.wp P (Exit.then (fun a' w' => ∃ k', k' < k ∧ J k' a' w') Q) a w) :
  ∀ (k : Nat) (a : Act) (w : World), J k a w → (Code.loop c).wp P Q a w := by
 intro k a w hJ b t cs; have key : ∀ n a w, J n a w → ∃ e a' w', Q e a' w' ∧ Arrives P (lone (b.at a (.code c :: .inLoop c :: t)) cs w) b t cs e a' w' := by
  intro n
  induction n using Nat.strongRecOn with
  | _ n ih =>
   intro a w hI; obtain ⟨e, a₁, w₁, hq, harr⟩ := round n a w hI b (.inLoop c :: t) cs
   cases e with
   | normal =>
    obtain ⟨n', hlt, hI₁⟩ := hq; obtain ⟨e₂, a₂, w₂, hq₂, harr₂⟩ := ih n' hlt a₁ w₁ hI₁; exact ⟨e₂, a₂, w₂, hq₂, .of_steps (Steps.trans harr (.one step_inLoop)) harr₂⟩
   | exit id => exact ⟨_, a₁, w₁, hq, .pass (x := .inLoop c) rfl (fun _ _ => .inl (by simp)) harr⟩
   | goto l => exact ⟨_, a₁, w₁, hq, .pass (x := .inLoop c) rfl (fun _ _ => .inl (by simp)) harr⟩
   | ret => exact ⟨_, a₁, w₁, hq, .pass (x := .inLoop c) rfl (fun _ _ => .inl (by simp)) harr⟩
   | panic ch => exact ⟨_, a₁, w₁, hq, .pass (x := .inLoop c) rfl (fun _ _ => .inl (by simp)) harr⟩
   | outgrown => exact ⟨_, a₁, w₁, hq, .pass (x := .inLoop c) rfl (fun _ _ => .inl (by simp)) harr⟩
 obtain ⟨e, a', w', hq, harr⟩ := key k a w hJ; exact ⟨e, a', w', hq, .of_steps (.one step_loop) harr⟩
theorem calls_WP {f : FuncId} {fn : Func} {c : Code} {args : List Value} {R : Ending → World → Prop}
  (hf : P.funcs[f]? = some fn) (hb : fn.body = some c) (hn : Nat.ble args.length fn.ntmps = true)
  (h : WP P c (bodyPost P fn R) fn.ntmps ((List.range args.length).zip args) B G Γ) (hI : Inv B G Γ W) :
  Calls P f args.toArray W R := by
 have hn := Nat.le_of_ble_eq_true hn; refine calls_of_wp hf hb (h _ _ ⟨rfl, by simp; omega, fun t v ht => ?_⟩ hI); have hm : (t, v) ∈ (List.range args.length).zip args := by
  have : ∀ (l : List (Nat × Value)), l.lookup t = some v → (t, v) ∈ l := by
   intro l
   induction l with
   | nil => simp
   | cons p l ih =>
    intro h; obtain ⟨c, o⟩ := p; simp only [List.lookup_cons] at h
    split at h
    ·rename_i e; have e : t = c := by simpa using e
     cases h; subst e; simp
    ·exact List.mem_cons_of_mem _ (ih h)
  exact this _ ht
 obtain ⟨j, hj, e⟩ := List.mem_iff_getElem.1 hm; simp only [List.getElem_zip, List.getElem_range, Prod.mk.injEq] at e; obtain ⟨rfl, rfl⟩ := e; simp only [List.length_zip, List.length_range, Nat.min_self] at hj; simp [Array.getElem?_append, hj]
theorem run_results {fn : Func} {a : Act} {L : Env} (rs : List Nat) (vs : List Value) (hF : Fr n L a) (hr : fn.results = (rs.map ResultVar.tmp).toArray)
  (hv : rs.mapM (L.lookup ·) = some vs) : (results fn a.tmps).run P W = .ok (if h : vs.length = 1 then vs[0] else .tuple vs.toArray) W := by
 have key : ∀ (g : ResultVar → Sem Value) (_ : ∀ t, g (.tmp t) = pure (a.tmps.getD t undef)) (rs : List Nat) (vs : List Value), rs.mapM (L.lookup ·) = some vs →
   (rs.map ResultVar.tmp).mapM g = pure vs := by
  intro g hg rs
  induction rs with
  | nil => intro vs h; simp at h; subst h; rfl
  | cons r rs ih =>
   intro vs h; simp only [List.mapM_cons, Option.bind_eq_bind, Option.bind_eq_some_iff, Option.pure_def, Option.some.injEq] at h; obtain ⟨v, hv, us, hus, rfl⟩ := h; simp only [List.map_cons, List.mapM_cons]; rw [ih us hus, hg]; have : a.tmps.getD r undef = v := by simp [hF.holds r v hv]
   rw [this]; rfl
 unfold results; rw [hr]; simp only [List.mapM_toArray]; rw [key _ (fun t => rfl) rs vs hv]; show Result.ok _ W = _; by_cases h : vs.length = 1
 ·simp [h]
 ·simp [h]
theorem QP.returned {fn : Func} {R : Ending → World → Prop} (rs : List Nat) (vs : List Value) (v : Value) (hr : fn.results = (rs.map ResultVar.tmp).toArray)
  (hv : rs.mapM (L.lookup ·) = some vs) (hv1 : (if h : vs.length = 1 then vs[0] else .tuple vs.toArray) = v)
  (h : ∀ W, Inv B G Γ W → R (.returned v) W) : QP (bodyPost P fn R) .ret n L B G Γ :=
 fun a W hF hI => ⟨hF.defers, v, by rw [run_results rs vs hF hr hv, hv1], h W hI⟩
theorem QP.returnedN {fn : Func} {R : Ending → World → Prop} (rs : List Nat) (vs : List Value) (v : Value) (hr : fn.results = (rs.map ResultVar.tmp).toArray)
  (hv : rs.mapM (L.lookup ·) = some vs) (hv1 : (if h : vs.length = 1 then vs[0] else .tuple vs.toArray) = v)
  (h : ∀ W, Inv B G Γ W → R (.returned v) W) : QP (bodyPost P fn R) .normal n L B G Γ :=
 fun a W hF hI => ⟨hF.defers, v, by rw [run_results rs vs hF hr hv, hv1], h W hI⟩
end rules
end Go.Gg
