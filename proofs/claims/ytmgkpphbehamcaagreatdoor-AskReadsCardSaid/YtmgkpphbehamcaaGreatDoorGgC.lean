/- Loads, stores, new blocks, slices' parts, appends: told by frozen and by owned slices. Nothing of any one program is said here. -/
import Derived.Test.YtmgkpphbehamcaaGreatDoorGgB
namespace Go.Gg
variable {P : Program} {B : World} {G G' : GMap} {Γ Γ' : List Chunk} {W W' : World} {L : Env} {ty : TypeId}
variable {α : Type} {kd : Kd α}
theorem cell_of_block {b : Nat} {cells : Array Value} {T : TypeId} {fr : Nat × Nat} (h : W.heap[b]? = some (.cells cells T fr)) (o : Nat) :
  W.cell? ⟨b, o, none⟩ = cells[o]? := by simp [World.cell?, h]
theorem add_off {ad : Addr} (hs : ad.spot = none) (m : Nat) : ad.add m = ⟨ad.block, ad.off + m, none⟩ := by
 unfold Addr.add
 split
 ·rename_i h0; subst h0; obtain ⟨b, o, s⟩ := ad; simp at hs; subst hs; simp
 ·rfl
theorem Tells.load_at {t : TypeId} {x : Operand} {agg : Bool} {sz : Nat} {ad : Addr} {cs : List Value} (ht : aggTy P t = some (agg, sz)) (hx : evalE L x = some (.pointer (some ad))) (hs : ad.spot = none)
  (hl : cs.length = sz) (h1 : agg = false → sz = 1) (hc : ∀ W, Inv B G Γ W → ∀ j (hj : j < cs.length), W.cell? ⟨ad.block, ad.off + j, none⟩ = some cs[j]) :
  Tells P B G Γ (exec1 (rho L) (.load t x) ty) (cellVal agg cs) := by
 refine Tells.of_run (s := Instr.loadAt t (rho L x)) fun W hI => ?_
 rw [rho_of hx]; have := run_loadVar ht W ad hs cs hl h1 (hc W hI); simp only [Instr.loadAt, Instr.sureAddr]; rw [Sem.run_bind]; simpa [Sem.run, go_sem] using this
theorem Rd.load {A : Option Addr} {c : Nat} {xs : List α} (h : Rd kd G A c xs) {t : TypeId} {x : Operand} {agg : Bool} {j : Int} (h0 : 0 ≤ j) (h1 : j < xs.length) (d : α)
  (ht : aggTy P t = some (agg, kd.sz)) (ha : agg = false → kd.sz = 1) (hx : evalE L x = some (.pointer (A.map (·.add (j.toNat * kd.sz))))) :
  ∃ cs, kd.rel G (xs.getD j.toNat d) cs ∧ Tells P B G Γ (exec1 (rho L) (.load t x) ty) (cellVal agg cs) := by
 have hj : j.toNat < xs.length := by omega
 obtain ⟨ad, rfl, hs, cells, T, fr, hG, hl⟩ := h.2 (fun e => by subst e; simp at hj); obtain ⟨cs, hr, hc⟩ := hl j.toNat hj; refine ⟨cs, by simpa [List.getD_eq_getElem?_getD, List.getElem?_eq_getElem hj] using hr, ?_⟩; replace hx : evalE L x = some (.pointer (some (ad.add (j.toNat * kd.sz)))) := hx; refine Tells.load_at ht hx (by rw [add_off hs]) (kd.len hr) ha fun W hI i hi => ?_
 rw [add_off hs]; rw [cell_of_block (hI.fro _ _ hG)]; have := hc i hi; simpa [Nat.add_assoc] using this
theorem Ow.load {A : Option Addr} {c : Nat} {xs : List α} {C : Chunk} (h : Ow kd G A c xs C) {i : Nat} (hi : Γ[i]? = some C) {t : TypeId} {x : Operand} {agg : Bool} {j : Int} (h0 : 0 ≤ j) (h1 : j < xs.length) (d : α)
  (ht : aggTy P t = some (agg, kd.sz)) (ha : agg = false → kd.sz = 1) (hx : evalE L x = some (.pointer (A.map (·.add (j.toNat * kd.sz))))) :
  ∃ cs, kd.rel G (xs.getD j.toNat d) cs ∧ Tells P B G Γ (exec1 (rho L) (.load t x) ty) (cellVal agg cs) := by
 have hj : j.toNat < xs.length := by omega
 rcases h.2 with ⟨_, e, _⟩ | ⟨b, cells, T, fr, rfl, rfl, hsz, _, hl⟩
 ·subst e; simp at hj
 obtain ⟨cs, hr, hc⟩ := hl j.toNat hj; refine ⟨cs, by simpa [List.getD_eq_getElem?_getD, List.getElem?_eq_getElem hj] using hr, ?_⟩; replace hx : evalE L x = some (.pointer (some ((⟨b, 0, none⟩ : Addr).add (j.toNat * kd.sz)))) := hx; refine Tells.load_at ht hx (by rw [add_off rfl]) (kd.len hr) ha fun W hI i' hi' => ?_
 rw [add_off rfl]; rw [cell_of_block (hI.chunk hi)]; have := hc i' hi'; simpa [Nat.add_assoc] using this
theorem Tells.load_box {i b o : Nat} {cells : Array Value} {T : TypeId} {fr : Nat × Nat} (hi : Γ[i]? = some [(b, .cells cells T fr)]) {t : TypeId} {x : Operand} {agg : Bool} {sz : Nat}
  (ht : aggTy P t = some (agg, sz)) (hx : evalE L x = some (.pointer (some ⟨b, o, none⟩))) (h1 : agg = false → sz = 1) (hle : o + sz ≤ cells.size) {v : Value}
  (hv : cellVal agg ((cells.toList.drop o).take sz) = v) : Tells P B G Γ (exec1 (rho L) (.load t x) ty) v := by
 subst hv; refine Tells.load_at ht hx rfl (by simp; omega) h1 fun W hI j hj => ?_
 rw [cell_of_block (hI.chunk hi)]; have hj' : o + j < cells.size := by simp at hj; omega
 simp only [List.getElem_take, List.getElem_drop]; simp [hj']
theorem Does.of_run {s : Sem Unit} {Φ : Value → GMap → List Chunk → Prop} (h : ∀ W, Inv B G Γ W → ∃ W' G' Γ', s.run P W = .ok () W' ∧ Φ undef G' Γ' ∧ Inv B G' Γ' W') :
  Does P B G Γ (do s; pure .skip) Φ := by
 intro W hI; obtain ⟨W', G', Γ', hr, hφ, hI'⟩ := h W hI; refine .inl ⟨.skip, undef, W', G', Γ', ?_, rfl, hφ, hI'⟩; rw [Sem.run_bind, hr]; rfl
def over (cells : Array Value) (o : Nat) : List Value → Array Value
 | [] => cells
 | v :: vs => over (cells.setIfInBounds o v) (o + 1) vs
theorem over_size (vs : List Value) : ∀ (cells : Array Value) (o : Nat), (over cells o vs).size = cells.size := by
 induction vs with
 | nil => intro cells o; rfl
 | cons v vs ih => intro cells o; simp [over, ih]
theorem over_get (vs : List Value) : ∀ (cells : Array Value) (o k : Nat), o + vs.length ≤ cells.size →
  (over cells o vs)[k]? = if o ≤ k ∧ k < o + vs.length then vs[k - o]? else cells[k]? := by
 induction vs with
 | nil => intro cells o k h; simp [over]; omega
 | cons v vs ih =>
  intro cells o k h; simp only [List.length_cons] at h; simp only [over]; rw [ih _ _ _ (by simp; omega)]; by_cases h1 : k = o
  ·subst h1; rw [if_neg (by omega), if_pos (by simp)]; simp [Array.getElem?_setIfInBounds_self]; omega
  ·by_cases h2 : o + 1 ≤ k ∧ k < o + 1 + vs.length
   ·rw [if_pos h2, if_pos (by simp; omega)]; rw [show k - o = (k - (o + 1)) + 1 by omega, List.getElem?_cons_succ]
   ·rw [if_neg h2, if_neg (by simp; omega)]; rw [Array.getElem?_setIfInBounds_ne (by omega)]
theorem run_storeCells {b : Nat} {T : TypeId} {fr : Nat × Nat} (vs : List Value) (h1 : ∀ u ∈ vs, one1 u = true) : ∀ (W : World) (cells : Array Value) (ad : Addr) (i o : Nat), ad.add i = ⟨b, o, none⟩ → (∀ m, ad.add (i + m) = ⟨b, o + m, none⟩) →
  W.heap[b]? = some (.cells cells T fr) → Free cells.size fr → o + vs.length ≤ cells.size →
  ∃ W', (storeCells ad vs i).run P W = .ok () W' ∧ W'.os = W.os ∧ W'.output = W.output ∧ W'.tape = W.tape ∧ W'.heap[b]? = some (.cells (over cells o vs) T fr) ∧ ∀ k, k ≠ b → W'.heap[k]? = W.heap[k]? := by
 induction vs with
 | nil => intro W cells ad i o ha _ hb _ _; exact ⟨W, by simp [storeCells, go_sem], rfl, rfl, rfl, hb, fun _ _ => rfl⟩
 | cons v vs ih =>
  intro W cells ad i o ha hm hb hf hl; simp only [List.length_cons] at hl; have hv : one1 v = true := h1 v (by simp); have hcell : W.cell? ⟨b, o, none⟩ = some (cells[o]'(by omega)) := by rw [cell_of_block hb]; simp
  have hfz : W.frozen? ⟨b, o, none⟩ = false := by
   have := hf.at (o := o) (by omega); simp only [World.frozen?, hb]; obtain ⟨lo, hi⟩ := fr; simpa using this
  have hb' : (W.setCell ⟨b, o, none⟩ v).heap[b]? = some (.cells (cells.setIfInBounds o v) T fr) := by
   simp [World.setCell, Array.getElem?_modify, hb]
  have hr' : ∀ k, k ≠ b → (W.setCell ⟨b, o, none⟩ v).heap[k]? = W.heap[k]? := fun k hk => by
   simp only [World.setCell, Array.getElem?_modify]; rw [if_neg (by omega)]
  obtain ⟨W', hrun, h2, h3, h4, h5, h6⟩ := ih (fun u hu => h1 u (by simp [hu])) (W.setCell ⟨b, o, none⟩ v) (cells.setIfInBounds o v) ad (i + 1) (o + 1) (by rw [hm 1]) (fun m => by rw [show i + 1 + m = i + (1 + m) by omega, hm]; congr 1; omega) hb' (by simpa using hf) (by simp; omega); refine ⟨W', ?_, h2, h3, h4, h5, fun k hk => (h6 k hk).trans (hr' k hk)⟩; simp only [storeCells]; rw [Sem.run_bind]; have : (store (ad.add i) v).run P W = .ok () (W.setCell ⟨b, o, none⟩ v) := by
   rw [ha]; simp only [store]
   cases v <;> simp [one1] at hv <;> simp [Sem.run, hcell, hfz]
  rw [this]; exact hrun
theorem add_mul {b o : Nat} (m : Nat) : (⟨b, o, none⟩ : Addr).add m = ⟨b, o + m, none⟩ := add_off rfl m
theorem run_storeVar {b o : Nat} {T : TypeId} {fr : Nat × Nat} {cells : Array Value} {t : TypeId} {v : Value} (hsz : (P.info? t).map (·.size) = some v.cells.size) (h1 : ∀ u ∈ v.cells.toList, one1 u = true)
  (hb : W.heap[b]? = some (.cells cells T fr)) (hf : Free cells.size fr) (hl : o + v.cells.size ≤ cells.size) :
  ∃ W', (storeVar t ⟨b, o, none⟩ v).run P W = .ok () W' ∧ W'.os = W.os ∧ W'.output = W.output ∧ W'.tape = W.tape ∧ W'.heap[b]? = some (.cells (over cells o v.cells.toList) T fr) ∧ ∀ k, k ≠ b → W'.heap[k]? = W.heap[k]? := by
 obtain ⟨i, hi, hs⟩ := Option.map_eq_some_iff.1 hsz; obtain ⟨W', hr, h⟩ := run_storeCells (P := P) v.cells.toList h1 W cells ⟨b, o, none⟩ 0 o (by rw [add_mul]; rfl) (fun m => by rw [add_mul, Nat.zero_add]) hb hf (by simpa using hl); refine ⟨W', ?_, h⟩; unfold storeVar; rw [Sem.run_bind]; have : (sizeOf t).run P W = .ok v.cells.size W := by simp [sizeOf, typeInfo, go_sem, hi, hs]
 rw [this]; simp only [Result.andThen]; simpa using hr
theorem run_store_box {i b o : Nat} {cells : Array Value} {T : TypeId} {fr : Nat × Nat} (hi : Γ[i]? = some [(b, .cells cells T fr)]) {t : TypeId} {x y : Operand} {v : Value}
  (hsz : (P.info? t).map (·.size) = some v.cells.size) (hx : evalE L x = some (.pointer (some ⟨b, o, none⟩))) (hy : evalE L y = some v) (h1 : v.cells.toList.all one1 = true)
  (hf : Free cells.size fr) (hl : o + v.cells.size ≤ cells.size) (hI : Inv B G Γ W) :
  ∃ W', (Instr.storeAt t (rho L x) (rho L y)).run P W = .ok () W' ∧ Inv B G (Γ.set i [(b, .cells (over cells o v.cells.toList) T fr)]) W' := by
 obtain ⟨W', hr, h2, h3, h4, h5, h6⟩ := run_storeVar (P := P) hsz (fun u hu => by simpa using List.all_eq_true.1 h1 u hu) (hI.chunk hi) hf hl; refine ⟨W', ?_, hI.writeAt hi h2 h3 h4 h5 h6⟩; rw [rho_of hx, rho_of hy]; simp only [Instr.storeAt, Instr.sureAddr]; rw [Sem.run_bind]; simpa [Sem.run, go_sem] using hr
theorem Does.store_box {i b o : Nat} {cells : Array Value} {T : TypeId} {fr : Nat × Nat} (hi : Γ[i]? = some [(b, .cells cells T fr)]) {t : TypeId} {x y : Operand} {v : Value}
  (hsz : (P.info? t).map (·.size) = some v.cells.size) (hx : evalE L x = some (.pointer (some ⟨b, o, none⟩))) (hy : evalE L y = some v) (h1 : v.cells.toList.all one1 = true)
  (hf : Free cells.size fr) (hl : o + v.cells.size ≤ cells.size) {cells' : Array Value} (hc : over cells o v.cells.toList = cells') :
  Does P B G Γ (exec1 (rho L) (.store t x y) ty) fun v' G' Γ' => v' = undef ∧ G = G' ∧ Γ' = Γ.set i [(b, .cells cells' T fr)] := by
 subst hc; refine Does.of_run (s := Instr.storeAt t (rho L x) (rho L y)) fun W hI => ?_
 obtain ⟨W', hr, hI'⟩ := run_store_box (P := P) hi hsz hx hy h1 hf hl hI; exact ⟨W', G, _, hr, ⟨rfl, rfl, rfl⟩, hI'⟩
theorem Ow.store {A : Option Addr} {c : Nat} {xs : List α} {C : Chunk} (h : Ow kd G A c xs C) {i : Nat} (hi : Γ[i]? = some C) {t : TypeId} {x y : Operand} {v : Value} {j : Int} (h0 : 0 ≤ j) (h1 : j < xs.length)
  (hx : evalE L x = some (.pointer (A.map (·.add (j.toNat * kd.sz))))) (hy : evalE L y = some v) (hsz : (P.info? t).map (·.size) = some kd.sz) {z : α} (hz : kd.rel G z v.cells.toList) :
  Does P B G Γ (exec1 (rho L) (.store t x y) ty) fun v' G' Γ' => v' = undef ∧ G = G' ∧ ∃ C', Ow kd G A c (xs.set j.toNat z) C' ∧ Γ' = Γ.set i C' := by
 have hj : j.toNat < xs.length := by omega
 rcases h.2 with ⟨_, e, _⟩ | ⟨b, cells, T, fr, rfl, rfl, hcs, hf, hl⟩
 ·subst e; simp at hj
 replace hx : evalE L x = some (.pointer (some ⟨b, j.toNat * kd.sz, none⟩)) := by rw [hx]; simp [add_mul]
 have hv : v.cells.size = kd.sz := by have := kd.len hz; simpa using this
 have hjc : j.toNat < c := by have := h.1; omega
 have hmul : j.toNat * kd.sz + kd.sz ≤ cells.size := by
  rw [hcs]
  calc j.toNat * kd.sz + kd.sz = (j.toNat + 1) * kd.sz := by rw [Nat.add_mul, Nat.one_mul]
   _ ≤ c * kd.sz := Nat.mul_le_mul_right _ (by omega)
 refine Does.of_run (s := Instr.storeAt t (rho L x) (rho L y)) fun W hI => ?_
 obtain ⟨W', hr, hI'⟩ := run_store_box (P := P) hi (by rw [hv]; exact hsz) hx hy (List.all_eq_true.2 (kd.one hz)) hf (by rw [hv]; exact hmul) hI; refine ⟨W', G, _, hr, ⟨rfl, rfl, _, ⟨by simpa using h.1, .inr ⟨b, _, T, fr, rfl, rfl, by rw [over_size]; exact hcs, by rw [over_size]; exact hf, ?_⟩⟩, rfl⟩, hI'⟩; intro i' hi'; simp only [List.length_set] at hi'; have hle : j.toNat * kd.sz + v.cells.toList.length ≤ cells.size := by simp [hv]; exact hmul
 by_cases e : i' = j.toNat
 ·subst e; refine ⟨v.cells.toList, by simpa using hz, fun q hq => ?_⟩; rw [over_get _ _ _ _ hle, if_pos (by omega)]; rw [show 0 + j.toNat * kd.sz + q - j.toNat * kd.sz = q by omega]; simp at hq; simp [hq]
 ·obtain ⟨cs, hr2, hc2⟩ := hl i' hi'; refine ⟨cs, by simpa [List.getElem_set_ne (Ne.symm e)] using hr2, fun q hq => ?_⟩; have hcl := kd.len hr2; rw [over_get _ _ _ _ hle, if_neg, hc2 q hq]; simp only [Array.length_toList, hv]; rintro ⟨ha, hb⟩; rcases Nat.lt_or_gt_of_ne e with hlt | hgt
  ·have : (i' + 1) * kd.sz ≤ j.toNat * kd.sz := Nat.mul_le_mul_right _ hlt; rw [Nat.add_mul, Nat.one_mul] at this; omega
  ·have : (j.toNat + 1) * kd.sz ≤ i' * kd.sz := Nat.mul_le_mul_right _ hgt; rw [Nat.add_mul, Nat.one_mul] at this; omega
def evN (P : Program) : Sem Next → Option (Obj × (Nat → Sem Next))
 | .program k => evN P (k P)
 | .new o k => some (o, k)
 | _ => none
def evNr (P : Program) (s : Sem Next) (r : Nat) : Option (Obj × Value) :=
 match evN P s with
 | some (o, k) => match evq P (k r) with
  | some (.value v) => some (o, v)
  | _ => none
 | none => none
theorem evN_run {s : Sem Next} {o : Obj} {k : Nat → Sem Next} (h : evN P s = some (o, k)) (W : World) : s.run P W = (k W.heap.size).run P { W with heap := W.heap.push o } := by
 induction s with
 | program k' ih => exact ih P h
 | new o' k' ih => simp only [evN, Option.some.injEq, Prod.mk.injEq] at h; obtain ⟨rfl, rfl⟩ := h; rfl
 | _ => simp [evN] at h
theorem Does.new {s : Sem Next} {o : Obj} {v : Nat → Value} (h : ∀ r, evNr P s r = some (o, v r)) :
  Does P B G Γ s fun v' G' Γ' => ∃ b, v' = v b ∧ G = G' ∧ Γ' = [(b, o)] :: Γ := by
 intro W hI; have hr := h W.heap.size; unfold evNr at hr
 split at hr
 ·rename_i o' k hk
  split at hr
  ·rename_i u hu
   simp only [Option.some.injEq, Prod.mk.injEq] at hr; obtain ⟨rfl, rfl⟩ := hr; exact .inl ⟨_, _, _, G, _, (evN_run hk W).trans (evq_run hu _), rfl, ⟨_, rfl, rfl, rfl⟩, hI.alloc _⟩
  ·cases hr
 ·cases hr
theorem Does.enter {s : Sem Next} {f : FuncId} {args : List Value} {Φ : Value → GMap → List Chunk → Prop} (h : evq P s = some (.enter f args.toArray))
  (hc : ∀ W, Inv B G Γ W → Calls P f args.toArray W fun e W' => ∃ v G' Γ', e = .returned v ∧ Φ v G' Γ' ∧ Inv B G' Γ' W') : Does P B G Γ s Φ :=
 fun W hI => .inr ⟨f, _, W, evq_run h W, hc W hI⟩
end Go.Gg
