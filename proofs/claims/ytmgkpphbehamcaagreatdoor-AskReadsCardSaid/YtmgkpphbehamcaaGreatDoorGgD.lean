/- Appends, makes, parts of slices and strings, conversions. Nothing of any one program is said here. -/
import Derived.Test.YtmgkpphbehamcaaGreatDoorGgC
namespace Go.Gg
variable {P : Program} {B : World} {G G' : GMap} {Γ Γ' : List Chunk} {W W' : World} {L : Env} {ty : TypeId}
variable {α : Type} {kd : Kd α}
def Src (P : Program) (B : World) (G : GMap) (Γ : List Chunk) (kd : Kd α) (x : Value) (ys : List α) : Prop :=
 (∀ W, Inv B G Γ W → (Builtin.lenOf x).run P W = .ok ys.length W) ∧
 ∀ m, m ≤ ys.length → ∃ cs : List Value, cs.length = m * kd.sz ∧ Lies kd G cs.toArray 0 (ys.take m) ∧ ∀ W, Inv B G Γ W → (Builtin.firstCells kd.sz m x).run P W = .ok cs.toArray W
theorem Lies.one {cells : Array Value} {off : Nat} {xs : List α} (h : Lies kd G cells off xs) {k : Nat} (hk : k < xs.length * kd.sz) : ∃ u, cells[off + k]? = some u ∧ one1 u = true := by
 have hsz : 0 < kd.sz := by
  rcases Nat.eq_zero_or_pos kd.sz with e | e
  ·rw [e] at hk; simp at hk
  ·exact e
 have hd : k / kd.sz < xs.length := (Nat.div_lt_iff_lt_mul hsz).2 hk; obtain ⟨cs, hr, hc⟩ := h (k / kd.sz) hd; have hm : k % kd.sz < cs.length := by rw [kd.len hr]; exact Nat.mod_lt _ hsz
 have := hc (k % kd.sz) hm; have e : off + k / kd.sz * kd.sz + k % kd.sz = off + k := by
  have := Nat.div_add_mod k kd.sz; rw [Nat.mul_comm] at this; omega
 rw [e] at this; exact ⟨_, this, kd.one hr _ (List.getElem_mem hm)⟩
theorem Lies.part {cells : Array Value} {off : Nat} {xs : List α} (h : Lies kd G cells off xs) {m : Nat} (hm : m ≤ xs.length) :
  ((cells.toList.drop off).take (m * kd.sz)).length = m * kd.sz ∧ Lies kd G ((cells.toList.drop off).take (m * kd.sz)).toArray 0 (xs.take m) := by
 have hle : m * kd.sz ≤ xs.length * kd.sz := Nat.mul_le_mul_right _ hm; have hlen : ((cells.toList.drop off).take (m * kd.sz)).length = m * kd.sz := by
  rcases Nat.eq_zero_or_pos (m * kd.sz) with e | e
  ·simp [e]
  ·obtain ⟨u, hu, _⟩ := h.one (k := m * kd.sz - 1) (by omega); have := (Array.getElem?_eq_some_iff.1 hu).1; simp; omega
 refine ⟨hlen, fun i hi => ?_⟩; have him : i < m := by simp at hi; omega
 obtain ⟨cs, hr, hc⟩ := h i (by omega); refine ⟨cs, by simpa using hr, fun j hj => ?_⟩; have hlt : i * kd.sz + j < m * kd.sz := by
  have h1 := kd.len hr; have : (i + 1) * kd.sz ≤ m * kd.sz := Nat.mul_le_mul_right _ him; rw [Nat.add_mul, Nat.one_mul] at this; omega
 have := hc j hj; simp only [List.getElem?_toArray, Nat.zero_add]; rw [List.getElem?_take_of_lt hlt, List.getElem?_drop, ← Nat.add_assoc]; simpa using this
theorem run_firstCells {A : Addr} (hs : A.spot = none) {cells : Array Value} {T : TypeId} {fr : Nat × Nat} {xs : List α} (hb : W.heap[A.block]? = some (.cells cells T fr)) (hl : Lies kd G cells A.off xs) {m : Nat} (hm : m ≤ xs.length) (n c : Nat) :
  (Builtin.firstCells kd.sz m (.slice (some A) n c)).run P W = .ok ((cells.toList.drop A.off).take (m * kd.sz)).toArray W := by
 obtain ⟨h1, _⟩ := hl.part hm; have := run_loadCells (P := P) W A hs ((cells.toList.drop A.off).take (m * kd.sz)) (fun j hj => by
  rw [cell_of_block hb]; have hj' : A.off + j < cells.size := by simp at hj; omega
  simp [hj'])
 rw [h1] at this; simpa [Builtin.firstCells] using this
theorem Rd.src {A : Option Addr} {c : Nat} {xs : List α} (h : Rd kd G A c xs) : Src P B G Γ kd (.slice A xs.length c) xs := by
 refine ⟨fun W _ => by simp [Builtin.lenOf, go_sem], fun m hm => ?_⟩; by_cases hx : xs = []
 ·subst hx; have : m = 0 := by simpa using hm
  subst this; refine ⟨[], by simp, by simpa using Lies.nil kd G _ _, fun W _ => ?_⟩
  cases A with
  | none => simp [Builtin.firstCells, go_sem]
  | some a => simp [Builtin.firstCells, go_sem, loadCells, loadCellsFrom]
 ·obtain ⟨ad, rfl, hs, cells, T, fr, hG, hl⟩ := h.2 hx; obtain ⟨h1, h2⟩ := hl.part hm; exact ⟨_, h1, h2, fun W hI => run_firstCells hs (hI.fro _ _ hG) hl hm _ _⟩
theorem Ow.src {A : Option Addr} {c : Nat} {xs : List α} {C : Chunk} (h : Ow kd G A c xs C) {i : Nat} (hi : Γ[i]? = some C) : Src P B G Γ kd (.slice A xs.length c) xs := by
 refine ⟨fun W _ => by simp [Builtin.lenOf, go_sem], fun m hm => ?_⟩; rcases h.2 with ⟨rfl, rfl, rfl, rfl⟩ | ⟨b, cells, T, fr, rfl, rfl, hsz, _, hl⟩
 ·have : m = 0 := by simpa using hm
  subst this; exact ⟨[], by simp, by simpa using Lies.nil kd G _ _, fun W _ => by simp [Builtin.firstCells, go_sem]⟩
 ·obtain ⟨h1, h2⟩ := hl.part hm; exact ⟨_, h1, h2, fun W hI => run_firstCells (A := ⟨b, 0, none⟩) rfl (hI.chunk hi) hl hm _ _⟩
theorem Lies.append {cells : Array Value} {xs ys : List α} {more : List Value} {rest : List Value} (hc : cells.toList.length = xs.length * kd.sz) (hx : Lies kd G cells 0 xs) (hm : more.length = ys.length * kd.sz) (hy : Lies kd G more.toArray 0 ys) :
  Lies kd G (cells.toList ++ more ++ rest).toArray 0 (xs ++ ys) := by
 intro i hi; by_cases h : i < xs.length
 ·obtain ⟨cs, hr, hcs⟩ := hx i h; refine ⟨cs, by simpa [List.getElem_append_left h] using hr, fun j hj => ?_⟩; have h1 := kd.len hr; have : (i + 1) * kd.sz ≤ xs.length * kd.sz := Nat.mul_le_mul_right _ h; rw [Nat.add_mul, Nat.one_mul] at this; have := hcs j hj; simp only [List.getElem?_toArray]; rw [List.append_assoc, List.getElem?_append_left (by omega)]; simpa using this
 ·have hi' : i - xs.length < ys.length := by simp at hi; omega
  obtain ⟨cs, hr, hcs⟩ := hy (i - xs.length) hi'; refine ⟨cs, by simpa [List.getElem_append_right (by omega : xs.length ≤ i)] using hr, fun j hj => ?_⟩; have h1 := kd.len hr; have e : i * kd.sz = xs.length * kd.sz + (i - xs.length) * kd.sz := by rw [← Nat.add_mul]; congr 1; omega
  have : (i - xs.length + 1) * kd.sz ≤ ys.length * kd.sz := Nat.mul_le_mul_right _ hi'; rw [Nat.add_mul, Nat.one_mul] at this; have h2 := hcs j hj; simp only [List.getElem?_toArray] at h2 ⊢; rw [List.append_assoc, List.getElem?_append_right (by omega), List.getElem?_append_left (by omega)]; rw [show 0 + i * kd.sz + j - cells.toList.length = 0 + (i - xs.length) * kd.sz + j by omega]; exact h2
theorem Lies.over {cells : Array Value} {xs ys : List α} {more : List Value} (hl : (xs.length + ys.length) * kd.sz ≤ cells.size) (hx : Lies kd G cells 0 xs) (hm : more.length = ys.length * kd.sz) (hy : Lies kd G more.toArray 0 ys) :
  Lies kd G (over cells (xs.length * kd.sz) more) 0 (xs ++ ys) := by
 rw [Nat.add_mul] at hl; intro i hi; by_cases h : i < xs.length
 ·obtain ⟨cs, hr, hcs⟩ := hx i h; refine ⟨cs, by simpa [List.getElem_append_left h] using hr, fun j hj => ?_⟩; have h1 := kd.len hr; have : (i + 1) * kd.sz ≤ xs.length * kd.sz := Nat.mul_le_mul_right _ h; rw [Nat.add_mul, Nat.one_mul] at this; rw [over_get _ _ _ _ (by omega), if_neg (by omega)]; exact hcs j hj
 ·have hi' : i - xs.length < ys.length := by simp at hi; omega
  obtain ⟨cs, hr, hcs⟩ := hy (i - xs.length) hi'; refine ⟨cs, by simpa [List.getElem_append_right (by omega : xs.length ≤ i)] using hr, fun j hj => ?_⟩; have h1 := kd.len hr; have e : i * kd.sz = xs.length * kd.sz + (i - xs.length) * kd.sz := by rw [← Nat.add_mul]; congr 1; omega
  have : (i - xs.length + 1) * kd.sz ≤ ys.length * kd.sz := Nat.mul_le_mul_right _ hi'; rw [Nat.add_mul, Nat.one_mul] at this; rw [over_get _ _ _ _ (by omega), if_pos (by omega)]; have h2 := hcs j hj; simp only [List.getElem?_toArray] at h2; rw [show 0 + i * kd.sz + j - xs.length * kd.sz = 0 + (i - xs.length) * kd.sz + j by omega]; exact h2
theorem nextcap_le (n c : Nat) (h : c < n) : Builtin.nextslicecap n c ≤ 2 * n + 1024 := by
 unfold Builtin.nextslicecap
 split
 ·omega
 ·split
  ·omega
  ·simp only [Builtin.growBy]
   repeat' split
   all_goals omega
def zeroTy (P : Program) (e sz : TypeId) : Bool := match P.info? e with
 | some i => match i.zero with
  | some z => z.cells.size == sz
  | none => false
 | none => false
def intTy (P : Program) (t : TypeId) : Bool := match P.underlying t with
 | some (.slice _) => true
 | some .string => true
 | _ => false
theorem Does.of_val {s : Sem Value} {Φ : Value → GMap → List Chunk → Prop} (h : ∀ W, Inv B G Γ W → ∃ v W' G' Γ', s.run P W = .ok v W' ∧ Φ v G' Γ' ∧ Inv B G' Γ' W') :
  Does P B G Γ (do pure (.value (← s))) Φ := by
 intro W hI; obtain ⟨v, W', G', Γ', hr, hφ, hI'⟩ := h W hI; refine .inl ⟨.value v, v, W', G', Γ', ?_, rfl, hφ, hI'⟩; rw [Sem.run_bind, hr]; rfl
theorem intTy_some {t2 : TypeId} (h2 : intTy P t2 = true) : (∃ e, P.underlying t2 = some (.slice e)) ∨ P.underlying t2 = some .string := by
 simp only [intTy] at h2
 split at h2
 ·rename_i e he; exact .inl ⟨e, he⟩
 ·rename_i he; exact .inr he
 ·cases h2
theorem run_append_room {t t2 e : TypeId} {info : TypeInfo} (hu : P.underlying t = some (.slice e)) (hi : P.info? e = some info) (h2 : intTy P t2 = true)
  {A : Option Addr} {n c m : Nat} {v : Value} {cs : Array Value} (hL : (Builtin.lenOf v).run P W = .ok m W) (hR : (Builtin.firstCells info.size m v).run P W = .ok cs W) (hroom : n + m ≤ c)
  (hst : ∀ a, A = some a → (storeCells (a.add (n * info.size)) cs.toList).run P W = .ok () W') (hno : A = none → W' = W) :
  (Builtin.append_ #[t, t2] ty #[.slice A n c, v]).run P W = .ok (.slice A (n + m) c) W' := by
 rcases intTy_some h2 with ⟨e2, hd⟩ | hd
 all_goals
  cases A with
  | none => rw [hno rfl]; simp [Builtin.append_, run_underlying hu, run_underlying hd, sizeOf, typeInfo, hi, hL, hR, hroom]
  | some a => simp [Builtin.append_, run_underlying hu, run_underlying hd, sizeOf, typeInfo, hi, hL, hR, hroom, hst a rfl]
theorem run_append_more {t t2 e : TypeId} {info : TypeInfo} {z : Value} (hu : P.underlying t = some (.slice e)) (hi : P.info? e = some info) (hz : info.zero = some z) (h2 : intTy P t2 = true)
  {A : Option Addr} {n c m : Nat} {v : Value} {co cs : Array Value} (hL : (Builtin.lenOf v).run P W = .ok m W) (hR : (Builtin.firstCells info.size m v).run P W.drew = .ok cs W.drew)
  (hR0 : (Builtin.firstCells info.size n (.slice A n c)).run P W.drew = .ok co W.drew) (hroom : ¬ n + m ≤ c) (h63 : ¬ (9223372036854775807 < (n : Int) + m))
  (hle : ¬ (281474976710656 < Builtin.nextslicecap (n + m) c * info.bytes)) :
  ∃ cap, n + m ≤ cap ∧ (Builtin.append_ #[t, t2] ty #[.slice A n c, v]).run P W = .ok (.slice (some ⟨W.heap.size, 0, none⟩) (n + m) cap)
   (W.drew.alloc (.cells (co ++ cs ++ Builtin.zeroCells z.cells (cap - (n + m))) e)) := by
 refine ⟨(Question.appendCap (n + m) c e).cut (W.tape W.drawn (.appendCap (n + m) c e)), by simp [Question.cut], ?_⟩; rcases intTy_some h2 with ⟨e2, hd⟩ | hd
 all_goals
  simp [Builtin.append_, run_underlying hu, run_underlying hd, sizeOf, typeInfo, hi, hL, hroom, h63, hle, Question.forced, askRoom, hR, hR0, zeroValue, hz, newRow]
theorem Inv.drew (h : Inv B G Γ W) : Inv B G Γ W.drew := h.drawn _
theorem size_zeroCells (z : Array Value) (n : Nat) : (Builtin.zeroCells z n).size = n * z.size := by simp [Builtin.zeroCells]
theorem Ow.append {A : Option Addr} {c : Nat} {xs : List α} {C : Chunk} (h : Ow kd G A c xs C) {i : Nat} (hi : Γ[i]? = some C) {x y : Operand} {v : Value} {ys : List α} (hx : evalE L x = some (.slice A xs.length c)) (hy : evalE L y = some v)
  (hs : Src P B G Γ kd v ys) {t t2 : TypeId} {e by_ : Nat} (ht : sliceTy P t = some (e, kd.sz, by_)) (hz : zeroTy P e kd.sz = true) (h2 : intTy P t2 = true) (hby : by_ ≤ 4096) (hlen : xs.length + ys.length ≤ 1073741824) :
  Does P B G Γ (exec1 (rho L) (.call { callee := .builtin .append, args := #[x, y], argTypes := #[t, t2] }) ty) fun v' G' Γ' =>
   G = G' ∧ ∃ A' c' C', v' = .slice A' (xs ++ ys).length c' ∧ Ow kd G A' c' (xs ++ ys) C' ∧ Γ' = Γ.set i C' := by
 obtain ⟨hu, info, hinfo, hsz, hb⟩ := sliceTy_some ht; obtain ⟨z, hz1, hz2⟩ : ∃ z, info.zero = some z ∧ z.cells.size = kd.sz := by
  simp only [zeroTy, hinfo] at hz
  split at hz
  ·rename_i z hz'; exact ⟨z, hz', by simpa using hz⟩
  ·cases hz
 obtain ⟨hlenOf, hsrc⟩ := hs; obtain ⟨cs, hcl, hcs, hrun⟩ := hsrc ys.length (Nat.le_refl _); rw [List.take_length] at hcs; refine Does.of_val (s := Builtin.append_ #[t, t2] ty (#[x, y].map (rho L))) fun W hI => ?_
 have hL := hlenOf W hI; have e1 : (#[x, y].map (rho L)) = #[.slice A xs.length c, v] := by simp [rho_of hx, rho_of hy]
 rw [e1]; have h1 : ∀ u ∈ cs, one1 u = true := fun u hu' => by
  obtain ⟨k, hk, rfl⟩ := List.mem_iff_getElem.1 hu'; obtain ⟨w, hw, hw1⟩ := hcs.one (k := k) (by omega); simp [hk] at hw; rw [hw]; exact hw1
 by_cases hroom : xs.length + ys.length ≤ c
 ·rcases h.2 with ⟨rfl, rfl, rfl, rfl⟩ | ⟨b, cells, T, fr, rfl, rfl, hcz, hf, hl⟩
  ·have hy0 : ys = [] := by simpa using hroom
   subst hy0; refine ⟨_, W, G, Γ, run_append_room hu hinfo h2 hL (by rw [hsz]; exact hrun W hI) hroom (by simp) (fun _ => rfl), ⟨rfl, none, 0, [], by simp, by simpa using Ow.nil kd G, ?_⟩, hI⟩; have := flatten_set_perm (C' := []) hi; apply List.ext_getElem?; intro j; rw [List.getElem?_set]
   split
   ·rename_i e'; subst e'
    obtain ⟨hl, e⟩ := List.getElem?_eq_some_iff.1 hi; simp [hl, e]
   ·rfl
  ·have hfit : (xs.length + ys.length) * kd.sz ≤ cells.size := by rw [hcz]; exact Nat.mul_le_mul_right _ hroom
   obtain ⟨W', hr, h3, h4, h5, h6, h7⟩ := run_storeCells (P := P) cs h1 W cells ((⟨b, 0, none⟩ : Addr).add (xs.length * kd.sz)) 0 (xs.length * kd.sz) (by rw [add_mul, add_mul]; simp) (fun m => by rw [add_mul, add_mul]; simp) (hI.chunk hi) hf (by rw [hcl, ← Nat.add_mul]; exact hfit); refine ⟨_, W', G, _, run_append_room hu hinfo h2 hL (by rw [hsz]; exact hrun W hI) hroom (fun a ha => ?_) (fun ha => by cases ha), ⟨rfl, some ⟨b, 0, none⟩, c, _, by simp, ⟨by simpa using hroom, .inr ⟨b, _, T, fr, rfl, rfl, by rw [over_size]; exact hcz, by rw [over_size]; exact hf, Lies.over hfit hl hcl hcs⟩⟩, rfl⟩, hI.writeAt hi h3 h4 h5 h6 h7⟩
   cases ha
   rw [hsz]; simpa using hr
 ·have hself := (Ow.src (P := P) (B := B) h hi); obtain ⟨co, hco1, hco2, hco3⟩ := hself.2 xs.length (Nat.le_refl _); rw [List.take_length] at hco2; have hle : ¬ (281474976710656 < Builtin.nextslicecap (xs.length + ys.length) c * info.bytes) := by
   have := nextcap_le (xs.length + ys.length) c (by omega); have : Builtin.nextslicecap (xs.length + ys.length) c * info.bytes ≤ 2147484672 * 4096 := Nat.mul_le_mul (by omega) (by omega); omega
  obtain ⟨cap, hcap, hr⟩ := run_append_more (ty := ty) hu hinfo hz1 h2 hL (by rw [hsz]; exact hrun W.drew hI.drew) (by rw [hsz]; exact hco3 W.drew hI.drew) hroom (by omega) hle; have hI2 := (((hI.drew).take hi).sub (Γ' := Γ.eraseIdx i) (by simp)).alloc (.cells (co.toArray ++ cs.toArray ++ Builtin.zeroCells z.cells (cap - (xs.length + ys.length))) e); refine ⟨_, _, G, Γ.set i _, hr, ⟨rfl, some ⟨W.heap.size, 0, none⟩, cap, _, by simp, ⟨by simpa using hcap, .inr ⟨W.heap.size, _, e, (0, 0), rfl, rfl, ?_, Free.zero _, ?_⟩⟩, rfl⟩, Inv.putAt hi hI2⟩
  ·simp only [Array.size_append, List.size_toArray, size_zeroCells, hz2, hco1, hcl, ← Nat.add_mul]
   congr 1
   omega
  ·generalize Builtin.zeroCells z.cells (cap - (xs.length + ys.length)) = Z; have e3 : co.toArray ++ cs.toArray ++ Z = (co.toArray.toList ++ cs ++ Z.toList).toArray := by apply Array.ext'; simp
   rw [e3]; exact Lies.append (by simpa using hco1) hco2 hcl hcs
end Go.Gg
