/- What operations do to memory, told by frozen and by owned slices. Nothing of any one program is said here. -/
import Derived.Test.YtmgkpphbehamcaaGreatDoorGgA
import Derived.Laws.OwnMore
import Derived.Laws.MakeOwn
import Derived.Deep.AppendLies
namespace Go.Gg
variable {P : Program} {B : World} {G G' : GMap} {Γ Γ' : List Chunk} {W W' : World} {L : Env} {ty : TypeId}
theorem flatten_set_perm {Γ : List Chunk} {i : Nat} {C C' : Chunk} (h : Γ[i]? = some C) : (Γ.set i C').flatten.Perm (C' ++ (Γ.eraseIdx i).flatten) := by
 induction Γ generalizing i with
 | nil => simp at h
 | cons D Γ ih =>
  cases i with
  | zero => simp
  | succ i =>
   simp only [List.getElem?_cons_succ] at h; simp only [List.set_cons_succ, List.flatten_cons, List.eraseIdx_cons_succ]; refine (List.Perm.append_left D (ih h)).trans ?_; rw [← List.append_assoc, ← List.append_assoc]; exact List.Perm.append_right _ List.perm_append_comm
theorem flatten_at_perm {Γ : List Chunk} {i : Nat} {C : Chunk} (h : Γ[i]? = some C) : Γ.flatten.Perm (C ++ (Γ.eraseIdx i).flatten) := by
 have := flatten_set_perm (C' := C) h; have e : Γ.set i C = Γ := by
  apply List.ext_getElem?; intro j; rw [List.getElem?_set]
  split
  ·rename_i e; subst e
   obtain ⟨hl, e⟩ := List.getElem?_eq_some_iff.1 h; simp [hl, e]
  ·rfl
 rwa [e] at this
theorem Inv.take {i : Nat} {C : Chunk} (h : Inv B G Γ W) (hi : Γ[i]? = some C) : Inv B G (C :: Γ.eraseIdx i) W :=
 h.perm (by simpa using flatten_at_perm hi)
theorem Inv.putAt {i : Nat} {C C' : Chunk} (hi : Γ[i]? = some C) (h : Inv B G (C' :: Γ.eraseIdx i) W) : Inv B G (Γ.set i C') W :=
 h.perm (by simpa using (flatten_set_perm hi).symm)
theorem Inv.chunk {i : Nat} {b : Nat} {o : Obj} (h : Inv B G Γ W) (hi : Γ[i]? = some [(b, o)]) : W.heap[b]? = some o :=
 (h.take hi).own (b, o) (by simp)
theorem Inv.writeAt {i b : Nat} {o o' : Obj} (h : Inv B G Γ W) (hi : Γ[i]? = some [(b, o)]) {W' : World} (hos : W'.os = W.os) (hout : W'.output = W.output) (ht : W'.tape = W.tape)
  (hb : W'.heap[b]? = some o') (hr : ∀ k, k ≠ b → W'.heap[k]? = W.heap[k]?) : Inv B G (Γ.set i [(b, o')]) W' :=
 Inv.putAt hi ((h.take hi).write hos hout ht hb hr)
def one1 : Value → Bool
 | .agg _ | .tuple _ => false
 | _ => true
structure Kd (α : Type) where
 sz : Nat
 rel : GMap → α → List Value → Prop
 len : ∀ {G x cs}, rel G x cs → cs.length = sz
 one : ∀ {G x cs}, rel G x cs → ∀ u ∈ cs, one1 u = true
 mono : ∀ {G G' x cs}, G.le G' → rel G x cs → rel G' x cs
variable {α : Type} {kd : Kd α}
def Lies (kd : Kd α) (G : GMap) (cells : Array Value) (off : Nat) (xs : List α) : Prop :=
 ∀ i (h : i < xs.length), ∃ cs, kd.rel G xs[i] cs ∧ ∀ j (hj : j < cs.length), cells[off + i * kd.sz + j]? = some cs[j]
theorem Lies.mono {cells : Array Value} {off : Nat} {xs : List α} (h : Lies kd G cells off xs) (hG : G.le G') : Lies kd G' cells off xs :=
 fun i hi => let ⟨cs, hr, hc⟩ := h i hi; ⟨cs, kd.mono hG hr, hc⟩
theorem Lies.nil (kd : Kd α) (G : GMap) (cells : Array Value) (off : Nat) : Lies kd G cells off [] := fun i h => absurd h (by simp)
def Rd (kd : Kd α) (G : GMap) (A : Option Addr) (c : Nat) (xs : List α) : Prop :=
 xs.length ≤ c ∧ (xs ≠ [] → ∃ ad, A = some ad ∧ ad.spot = none ∧ ∃ cells T fr, G ad.block = some (.cells cells T fr) ∧ Lies kd G cells ad.off xs)
theorem Rd.mono {A : Option Addr} {c : Nat} {xs : List α} (h : Rd kd G A c xs) (hG : G.le G') : Rd kd G' A c xs :=
 ⟨h.1, fun hx => let ⟨ad, e, s, cells, T, fr, hc, hl⟩ := h.2 hx; ⟨ad, e, s, cells, T, fr, hG _ _ hc, hl.mono hG⟩⟩
theorem Rd.nil (kd : Kd α) (G : GMap) (A : Option Addr) (c : Nat) : Rd kd G A c [] := ⟨by simp, fun h => absurd rfl h⟩
theorem Rd.isSome {A : Option Addr} {c : Nat} {xs : List α} (h : Rd kd G A c xs) {j : Int} (h0 : 0 ≤ j) (h1 : j < xs.length) : A.isSome = true := by
 obtain ⟨ad, e, _⟩ := h.2 (fun e => by subst e; simp at h1; omega); simp [e]
def Free (n : Nat) (fr : Nat × Nat) : Prop := fr = (0, 0) ∨ n ≤ fr.1
theorem Free.zero (n : Nat) : Free n (0, 0) := .inl rfl
theorem Free.at {n o : Nat} {fr : Nat × Nat} (h : Free n fr) (ho : o < n) : (decide (fr.1 ≤ o) && decide (o < fr.2)) = false := by
 rcases h with rfl | h
 ·simp
 ·have : ¬ fr.1 ≤ o := by omega
  simp [this]
def Ow (kd : Kd α) (G : GMap) (A : Option Addr) (c : Nat) (xs : List α) (C : Chunk) : Prop :=
 xs.length ≤ c ∧ ((A = none ∧ xs = [] ∧ c = 0 ∧ C = []) ∨
  ∃ b cells T fr, A = some ⟨b, 0, none⟩ ∧ C = [(b, .cells cells T fr)] ∧ cells.size = c * kd.sz ∧ Free cells.size fr ∧ Lies kd G cells 0 xs)
theorem Ow.mono {A : Option Addr} {c : Nat} {xs : List α} {C : Chunk} (h : Ow kd G A c xs C) (hG : G.le G') : Ow kd G' A c xs C := by
 refine ⟨h.1, ?_⟩; rcases h.2 with h | ⟨b, cells, T, fr, h1, h2, h3, h4, h5⟩
 ·exact .inl h
 ·exact .inr ⟨b, cells, T, fr, h1, h2, h3, h4, h5.mono hG⟩
theorem Ow.nil (kd : Kd α) (G : GMap) : Ow kd G none 0 [] [] := ⟨by simp, .inl ⟨rfl, rfl, rfl, rfl⟩⟩
theorem Ow.isSome {A : Option Addr} {c : Nat} {xs : List α} {C : Chunk} (h : Ow kd G A c xs C) {j : Int} (h0 : 0 ≤ j) (h1 : j < xs.length) : A.isSome = true := by
 rcases h.2 with ⟨_, e, _⟩ | ⟨b, cells, T, fr, e, _⟩
 ·subst e; simp at h1; omega
 ·simp [e]
theorem Ow.nodup {A : Option Addr} {c : Nat} {xs : List α} {C : Chunk} (h : Ow kd G A c xs C) : (C.map (·.1)).Nodup := by
 rcases h.2 with ⟨_, _, _, rfl⟩ | ⟨b, cells, T, fr, _, rfl, _⟩ <;> simp
theorem Ow.rd {A : Option Addr} {c : Nat} {xs : List α} {C : Chunk} (h : Ow kd G A c xs C) (hle : G.le (G.add C)) : Rd kd (G.add C) A c xs := by
 refine ⟨h.1, fun hx => ?_⟩; rcases h.2 with ⟨_, e, _⟩ | ⟨b, cells, T, fr, e, rfl, hsz, _, hl⟩
 ·exact absurd e hx
 ·exact ⟨⟨b, 0, none⟩, e, rfl, cells, T, fr, by simp [GMap.add], hl.mono hle⟩
theorem rho_of {x : Operand} {v : Value} (h : evalE L x = some v) : rho L x = v := by simp [rho, h]
theorem Tells.of_run {s : Sem Value} {v : Value} (h : ∀ W, Inv B G Γ W → s.run P W = .ok v W) :
  Tells P B G Γ (do pure (.value (← s))) v := by
 intro W hI; rw [Sem.run_bind, h W hI]; rfl
def sliceTy (P : Program) (t : TypeId) : Option (TypeId × Nat × Nat) :=
 match P.underlying t with
 | some (.slice e) => (P.info? e).map fun i => (e, i.size, i.bytes)
 | _ => none
theorem sliceTy_some {t e sz by_ : Nat} (h : sliceTy P t = some (e, sz, by_)) : P.underlying t = some (.slice e) ∧ ∃ i, P.info? e = some i ∧ i.size = sz ∧ i.bytes = by_ := by
 unfold sliceTy at h
 split at h
 ·rename_i e' he
  obtain ⟨i, hi, e1⟩ := Option.map_eq_some_iff.1 h; simp only [Prod.mk.injEq] at e1; obtain ⟨rfl, h2, h3⟩ := e1; exact ⟨he, i, hi, h2, h3⟩
 ·cases h
theorem Tells.indexAddr {t : TypeId} {x ix : Operand} {A : Option Addr} {n c : Nat} {k : IntKind} {j : Int} {e sz by_ : Nat}
  (hx : evalE L x = some (.slice A n c)) (hi : evalE L ix = some (.int k j)) (hA : A.isSome = true) (h0 : 0 ≤ j) (h1 : j < n) (ht : sliceTy P t = some (e, sz, by_)) :
  Tells P B G Γ (exec1 (rho L) (.indexAddr t x ix) ty) (.pointer (A.map (·.add (j.toNat * sz)))) := by
 obtain ⟨hu, i, hi', hsz, _⟩ := sliceTy_some ht; obtain ⟨ad, rfl⟩ := Option.isSome_iff_exists.1 hA; refine Tells.of_run (s := Instr.indexAt t (rho L x) (rho L ix)) fun W _ => ?_
 rw [rho_of hx, rho_of hi]; simp [Instr.indexAt, asIntOf, go_sem, underlying, hu, sizeOf, typeInfo, hi', hsz, h0, h1]
def aggTy (P : Program) (t : TypeId) : Option (Bool × Nat) :=
 match P.underlying t, P.info? t with
 | some (.struct _), some i | some (.array _ _), some i => some (true, i.size)
 | some _, some i => some (false, i.size)
 | _, _ => none
def cellVal : Bool → List Value → Value
 | true, cs => .agg cs.toArray
 | false, cs => cs.headD undef
theorem run_loadCells (W : World) (ad : Addr) (hs : ad.spot = none) (cs : List Value) (h : ∀ j (hj : j < cs.length), W.cell? ⟨ad.block, ad.off + j, none⟩ = some cs[j]) :
  (loadCells ad cs.length).run P W = .ok cs.toArray W := by
 have key : ∀ (m i : Nat) (acc : Array Value), i + m = cs.length → (loadCellsFrom ad i m acc).run P W = .ok (acc ++ (cs.drop i).toArray) W := by
  intro m
  induction m with
  | zero => intro i acc h; rw [List.drop_eq_nil_of_le (by omega)]; simp [loadCellsFrom]
  | succ m ih =>
   intro i acc hi; have hlt : i < cs.length := by omega
   have ha : ad.add i = ⟨ad.block, ad.off + i, none⟩ := by
    unfold Addr.add
    split
    ·rename_i h0; subst h0; obtain ⟨b, o, s⟩ := ad; simp at hs; subst hs; simp
    ·rfl
   simp only [loadCellsFrom, load]; rw [Sem.run_bind]; simp only [Sem.run, ha, h i hlt]; rw [show (cs.drop i) = cs[i] :: cs.drop (i + 1) from List.drop_eq_getElem_cons hlt]; have := ih (i + 1) (acc.push cs[i]) (by omega); simp only [Result.andThen]; rw [this]
   congr 1
   simp
 have := key cs.length 0 #[] (by omega); simpa [loadCells] using this
theorem run_loadVar {t : TypeId} {agg : Bool} {sz : Nat} (ht : aggTy P t = some (agg, sz)) (W : World) (ad : Addr) (hs : ad.spot = none) (cs : List Value) (hl : cs.length = sz) (h1 : agg = false → sz = 1)
  (h : ∀ j (hj : j < cs.length), W.cell? ⟨ad.block, ad.off + j, none⟩ = some cs[j]) : (loadVar t ad).run P W = .ok (cellVal agg cs) W := by
 unfold aggTy at ht; have hload := run_loadCells (P := P) W ad hs cs h; simp only [loadCells] at hload; subst hl
 split at ht
 ·rename_i i hu hi
  simp only [Option.some.injEq, Prod.mk.injEq] at ht; obtain ⟨rfl, hsz⟩ := ht; simp [loadVar, isAgg, underlying, go_sem, hu, sizeOf, typeInfo, hi, hsz, hload, cellVal]
 ·rename_i i hu hi
  simp only [Option.some.injEq, Prod.mk.injEq] at ht; obtain ⟨rfl, hsz⟩ := ht; simp [loadVar, isAgg, underlying, go_sem, hu, sizeOf, typeInfo, hi, hsz, hload, cellVal]
 ·rename_i d i hns hna hu hi
  simp only [Option.some.injEq, Prod.mk.injEq] at ht; obtain ⟨rfl, hsz⟩ := ht; have h1 := h1 rfl; obtain ⟨v, rfl⟩ := List.length_eq_one_iff.1 h1; have hc := h 0 (by simp); have hI : (isAgg t).run P W = .ok false W := by
   cases d <;> first | exact (hns _ rfl).elim | exact (hna _ _ rfl).elim | simp [isAgg, underlying, go_sem, hu]
  unfold loadVar; rw [Sem.run_bind, hI]; simp only [Result.andThen, Bool.false_eq_true, if_false, load, Sem.run]; have ha : ad = ⟨ad.block, ad.off + 0, none⟩ := by obtain ⟨b, o, s⟩ := ad; simp at hs; subst hs; rfl
  rw [ha, hc]; rfl
 ·cases ht
end Go.Gg
