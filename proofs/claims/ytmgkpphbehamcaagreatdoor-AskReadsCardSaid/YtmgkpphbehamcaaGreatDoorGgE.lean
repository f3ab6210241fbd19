/- Kinds; makes; parts of slices and of strings; conversions between bytes and strings. Nothing of any one program is said here. -/
import Derived.Test.YtmgkpphbehamcaaGreatDoorGgD
import Derived.Laws.BytesArg
import Derived.Lib.ConvBytes
namespace Go.Gg
variable {P : Program} {B : World} {G G' : GMap} {Γ Γ' : List Chunk} {W W' : World} {L : Env} {ty : TypeId}
variable {α : Type} {kd : Kd α}
def kInt (k : IntKind) : Kd Int := ⟨1, fun _ x cs => cs = [.int k x], fun h => by rw [h]; rfl, fun h => by rw [h]; simp [one1], fun _ h => h⟩
def kBool : Kd Bool := ⟨1, fun _ x cs => cs = [.bool x], fun h => by rw [h]; rfl, fun h => by rw [h]; simp [one1], fun _ h => h⟩
def kStr : Kd ByteArray := ⟨1, fun _ x cs => cs = [.string x], fun h => by rw [h]; rfl, fun h => by rw [h]; simp [one1], fun _ h => h⟩
def kSlice (kd : Kd α) : Kd (List α) := ⟨1, fun G x cs => ∃ A c, cs = [.slice A x.length c] ∧ Rd kd G A c x, fun ⟨_, _, h, _⟩ => by rw [h]; rfl, fun ⟨_, _, h, _⟩ => by rw [h]; simp [one1], fun hG ⟨A, c, h, hr⟩ => ⟨A, c, h, hr.mono hG⟩⟩
def kPair {β : Type} (k : Kd α) (k' : Kd β) : Kd (α × β) :=
 ⟨k.sz + k'.sz, fun G x cs => ∃ c1 c2, cs = c1 ++ c2 ∧ k.rel G x.1 c1 ∧ k'.rel G x.2 c2, fun ⟨_, _, h, h1, h2⟩ => by rw [h, List.length_append, k.len h1, k'.len h2],
  fun ⟨_, _, h, h1, h2⟩ u hu => by rw [h] at hu; exact (List.mem_append.1 hu).elim (k.one h1 u) (k'.one h2 u), fun hG ⟨c1, c2, h, h1, h2⟩ => ⟨c1, c2, h, k.mono hG h1, k'.mono hG h2⟩⟩
def kIso {β : Type} (f : β → α) (k : Kd α) : Kd β := ⟨k.sz, fun G x cs => k.rel G (f x) cs, fun h => k.len h, fun h => k.one h, fun hG h => k.mono hG h⟩
def boundE (L : Env) (d : Int) : Option Operand → Int → Prop
 | none, j => j = d
 | some x, j => ∃ k, evalE L x = some (.int k j)
theorem run_sliceBound {k : IntKind} {j : Int} {y : Nat} (h0 : 0 ≤ j) (h1 : j ≤ y) (code : BoundsCode) : (Instr.sliceBound (.int k j) y code).run P W = .ok j.toNat W := by
 simp [Instr.sliceBound, asIntOf, h0, h1]
theorem run_slice {t : TypeId} {A : Option Addr} {n c : Nat} {lo hi : Option Operand} {l h : Int} {e sz by_ : Nat} (hlo : boundE L 0 lo l) (hhi : boundE L n hi h) (h0 : 0 ≤ l) (h1 : l ≤ h) (h2 : h ≤ c) (ht : sliceTy P t = some (e, sz, by_)) :
  (Instr.sliceAt t (.slice A n c) (lo.map (rho L)) (hi.map (rho L)) none).run P W = .ok (.slice (if c = l.toNat then A else A.map (·.add (l.toNat * sz))) (h.toNat - l.toNat) (c - l.toNat)) W := by
 obtain ⟨hu, info, hinfo, hsz, hb⟩ := sliceTy_some ht; have e1 : (h.toNat : Int) = h := by omega
 have hlt : l ≤ (h.toNat : Int) := by omega
 cases lo with
 | none =>
  simp only [boundE] at hlo; subst hlo
  cases hi with
  | none =>
   simp only [boundE] at hhi; subst hhi; simp [Instr.sliceAt, Instr.slice, run_underlying hu, Instr.sliceBounds, sizeOf, typeInfo, hinfo]
  | some y =>
   obtain ⟨k, hk⟩ := hhi; simp [Instr.sliceAt, Instr.slice, run_underlying hu, Instr.sliceBounds, sizeOf, typeInfo, hinfo, rho_of hk, run_sliceBound (P := P) (k := k) (j := h) (y := c) (by omega) (by omega)]
 | some x =>
  obtain ⟨k', hk'⟩ := hlo
  cases hi with
  | none =>
   simp only [boundE] at hhi; subst hhi; simp [Instr.sliceAt, Instr.slice, run_underlying hu, Instr.sliceBounds, sizeOf, typeInfo, hinfo, hsz, rho_of hk', run_sliceBound (P := P) (k := k') (j := l) (y := n) h0 (by omega)]
  | some y =>
   obtain ⟨k, hk⟩ := hhi; simp [Instr.sliceAt, Instr.slice, run_underlying hu, Instr.sliceBounds, sizeOf, typeInfo, hinfo, hsz, rho_of hk, rho_of hk', run_sliceBound (P := P) (k := k) (j := h) (y := c) (by omega) (by omega), run_sliceBound (P := P) (k := k') (j := l) (y := h.toNat) h0 hlt]
theorem Lies.cut {cells : Array Value} {off : Nat} {xs : List α} (h : Lies kd G cells off xs) {lo hi : Nat} : Lies kd G cells (off + lo * kd.sz) ((xs.take hi).drop lo) := by
 intro i hi'; have hi2 : lo + i < xs.length := by simp at hi'; omega
 obtain ⟨cs, hr, hc⟩ := h (lo + i) hi2; refine ⟨cs, by simpa using hr, fun j hj => ?_⟩; have := hc j hj; rw [Nat.add_mul] at this; rw [show off + lo * kd.sz + i * kd.sz + j = off + (lo * kd.sz + i * kd.sz) + j by omega]; exact this
theorem Rd.cut {A : Option Addr} {c : Nat} {xs : List α} (h : Rd kd G A c xs) {lo hi : Nat} (h1 : lo ≤ hi) (h2 : hi ≤ xs.length) :
  Rd kd G (if c = lo then A else A.map (·.add (lo * kd.sz))) (c - lo) ((xs.take hi).drop lo) := by
 refine ⟨by have := h.1; simp; omega, fun hne => ?_⟩; have hlt : lo < hi := by
  rcases Nat.lt_or_ge lo hi with h' | h'
  ·exact h'
  ·exact absurd (List.drop_eq_nil_of_le (by simp; omega)) hne
 obtain ⟨ad, rfl, hs, cells, T, fr, hG, hl⟩ := h.2 (fun e => by subst e; simp at h2; omega); rw [if_neg (by have := h.1; omega)]; refine ⟨ad.add (lo * kd.sz), rfl, by rw [add_off hs], cells, T, fr, by rw [add_off hs]; exact hG, ?_⟩; rw [add_off hs]; exact hl.cut
theorem Rd.slice {A : Option Addr} {c : Nat} {xs : List α} (hr : Rd kd G A c xs) {t : TypeId} {x : Operand} {lo hi : Option Operand} {l h : Int} {e by_ : Nat} (hx : evalE L x = some (.slice A xs.length c))
  (hlo : boundE L 0 lo l) (hhi : boundE L xs.length hi h) (h0 : 0 ≤ l) (h1 : l ≤ h) (h2 : h ≤ xs.length) (ht : sliceTy P t = some (e, kd.sz, by_)) :
  ∃ A' c', Rd kd G A' c' ((xs.take h.toNat).drop l.toNat) ∧ Tells P B G Γ (exec1 (rho L) (.slice t x lo hi none) ty) (.slice A' ((xs.take h.toNat).drop l.toNat).length c') := by
 refine ⟨_, _, hr.cut (lo := l.toNat) (hi := h.toNat) (by omega) (by omega), Tells.of_run (s := Instr.sliceAt t (rho L x) (lo.map (rho L)) (hi.map (rho L)) none) fun W _ => ?_⟩; rw [rho_of hx, run_slice hlo hhi h0 h1 (by have := hr.1; omega) ht]
 congr 2
 simp; omega
theorem Ow.cut {A : Option Addr} {c : Nat} {xs : List α} {C : Chunk} (h : Ow kd G A c xs C) (m : Nat) : Ow kd G A c (xs.take m) C := by
 refine ⟨by have := h.1; simp; omega, ?_⟩; rcases h.2 with ⟨rfl, rfl, rfl, rfl⟩ | ⟨b, cells, T, fr, h1, h2, h3, h4, h5⟩
 ·exact .inl ⟨rfl, by simp, rfl, rfl⟩
 ·refine .inr ⟨b, cells, T, fr, h1, h2, h3, h4, ?_⟩; have := h5.cut (lo := 0) (hi := m); simpa using this
def bt (s : ByteArray) (i : Int) : Int := if h : i.toNat < s.size then ((s[i.toNat]'h).toNat : Int) else 0
theorem Tells.strAt {t : TypeId} {x ix : Operand} {s : ByteArray} {k : IntKind} {j : Int} (hx : evalE L x = some (.string s)) (hi : evalE L ix = some (.int k j)) (h0 : 0 ≤ j) (h1 : j < s.size) (ht : P.underlying t = some .string) :
  Tells P B G Γ (exec1 (rho L) (.index t x ix) ty) (.int .u8 (bt s j)) := by
 refine Tells.of_run (s := Instr.index t (rho L x) (rho L ix)) fun W _ => ?_
 rw [rho_of hx, rho_of hi]; have hlt : j.toNat < s.size := by omega
 have e : s[j.toNat]? = some s[j.toNat] := by simp [hlt]
 simp [Instr.index, asIntOf, run_underlying ht, h0, bt, hlt]
theorem Tells.strPart {t : TypeId} {x : Operand} {lo hi : Option Operand} {s : ByteArray} {l h : Int} (hx : evalE L x = some (.string s)) (hlo : boundE L 0 lo l) (hhi : boundE L s.size hi h) (h0 : 0 ≤ l) (h1 : l ≤ h) (h2 : h ≤ s.size)
  (ht : P.underlying t = some .string) : Tells P B G Γ (exec1 (rho L) (.slice t x lo hi none) ty) (.string (s.extract l.toNat h.toNat)) := by
 refine Tells.of_run (s := Instr.sliceAt t (rho L x) (lo.map (rho L)) (hi.map (rho L)) none) fun W _ => ?_
 rw [rho_of hx]; have hlt : l ≤ (h.toNat : Int) := by omega
 cases lo with
 | none =>
  simp only [boundE] at hlo; subst hlo
  cases hi with
  | none =>
   simp only [boundE] at hhi; subst hhi; simp [Instr.sliceAt, Instr.slice, run_underlying ht, Instr.sliceBounds]
  | some y =>
   obtain ⟨k, hk⟩ := hhi; simp [Instr.sliceAt, Instr.slice, run_underlying ht, Instr.sliceBounds, rho_of hk, run_sliceBound (P := P) (k := k) (j := h) (y := s.size) (by omega) (by omega)]
 | some x =>
  obtain ⟨k', hk'⟩ := hlo
  cases hi with
  | none =>
   simp only [boundE] at hhi; subst hhi; simp [Instr.sliceAt, Instr.slice, run_underlying ht, Instr.sliceBounds, rho_of hk', run_sliceBound (P := P) (k := k') (j := l) (y := s.size) h0 (by omega)]
  | some y =>
   obtain ⟨k, hk⟩ := hhi; simp [Instr.sliceAt, Instr.slice, run_underlying ht, Instr.sliceBounds, rho_of hk, rho_of hk', run_sliceBound (P := P) (k := k) (j := h) (y := s.size) (by omega) (by omega), run_sliceBound (P := P) (k := k') (j := l) (y := h.toNat) h0 hlt]
def bytesOf (s : ByteArray) : List Int := s.data.toList.map fun b => (b.toNat : Int)
def bytesTy (P : Program) (t : TypeId) : Bool := match P.underlying t with
 | some (.slice e) => match P.underlying e with
  | some (.int .u8) => true
  | _ => false
 | _ => false
theorem bytesTy_some {t : TypeId} (h : bytesTy P t = true) : ∃ e, P.underlying t = some (.slice e) ∧ P.underlying e = some (.int .u8) := by
 unfold bytesTy at h
 split at h
 ·rename_i e he
  split at h
  ·rename_i h2; exact ⟨e, he, h2⟩
  ·cases h
 ·cases h
theorem run_bytes_str {src dst : TypeId} (hs : bytesTy P src = true) (hd : P.underlying dst = some .string) {A : Option Addr} {c : Nat} {xs : List Int}
  (h : ∃ ad, A = some ad ∧ ad.spot = none ∧ ∀ i, i < xs.length → W.cell? ⟨ad.block, ad.off + i, none⟩ = some (.int .u8 (xs.getD i 0))) : (convert src dst (.slice A xs.length c)).run P W = .ok (.string (strOfNums xs)) W := by
 obtain ⟨e, h1, h2⟩ := bytesTy_some hs; obtain ⟨⟨b, o, s⟩, rfl, hsp, hc⟩ := h; simp only at hsp; subst hsp; exact run_convert_bytes_arg W src e h1 h2 b o xs.length c xs rfl hc dst hd
theorem Rd.str {A : Option Addr} {c : Nat} {xs : List Int} (hr : Rd (kInt .u8) G A c xs) {src dst : TypeId} {x : Operand} (hx : evalE L x = some (.slice A xs.length c)) (hs : bytesTy P src = true) (hd : P.underlying dst = some .string) :
  Tells P B G Γ (exec1 (rho L) (.convert src dst x) ty) (.string (strOfNums xs)) := by
 refine Tells.of_run (s := convert src dst (rho L x)) fun W hI => ?_
 rw [rho_of hx]; by_cases h0 : xs = []
 ·subst h0; obtain ⟨e, h1, h2⟩ := bytesTy_some hs
  cases A with
  | none => exact run_convert_bytes_nil (P := P) W src e h1 h2 0 c dst hd
  | some ad =>
   rw [run_convert_bytes_string W src dst e _ _ c h1 h2 hd]; simp [Conv.bytesToString, loadCells, loadCellsFrom, strOfNums]; rfl
 ·obtain ⟨ad, rfl, hsp, cells, T, fr, hG, hl⟩ := hr.2 h0; refine run_bytes_str hs hd ⟨ad, rfl, hsp, fun i hi => ?_⟩; obtain ⟨cs, hcs, hc⟩ := hl i hi; simp only [kInt] at hcs; subst hcs; have := hc 0 (by simp); rw [cell_of_block (hI.fro _ _ hG)]; simpa [kInt, List.getElem?_eq_getElem hi] using this
theorem Ow.str {A : Option Addr} {c : Nat} {xs : List Int} {C : Chunk} (hr : Ow (kInt .u8) G A c xs C) {i : Nat} (hi : Γ[i]? = some C) {src dst : TypeId} {x : Operand} (hx : evalE L x = some (.slice A xs.length c)) (hs : bytesTy P src = true) (hd : P.underlying dst = some .string) :
  Tells P B G Γ (exec1 (rho L) (.convert src dst x) ty) (.string (strOfNums xs)) := by
 refine Tells.of_run (s := convert src dst (rho L x)) fun W hI => ?_
 rw [rho_of hx]; rcases hr.2 with ⟨rfl, rfl, rfl, rfl⟩ | ⟨b, cells, T, fr, rfl, rfl, _, _, hl⟩
 ·obtain ⟨e, h1, h2⟩ := bytesTy_some hs; exact run_convert_bytes_nil (P := P) W src e h1 h2 0 0 dst hd
 ·refine run_bytes_str hs hd ⟨⟨b, 0, none⟩, rfl, rfl, fun j hj => ?_⟩; obtain ⟨cs, hcs, hc⟩ := hl j hj; simp only [kInt] at hcs; subst hcs; have := hc 0 (by simp); rw [cell_of_block (hI.chunk hi)]; simpa [kInt, List.getElem?_eq_getElem hj] using this
theorem Does.bytes {src dst : TypeId} {x : Operand} {s : ByteArray} (hx : evalE L x = some (.string s)) (hd : bytesTy P dst = true) (hs : (P.underlying src).isSome = true) :
  Does P B G Γ (exec1 (rho L) (.convert src dst x) ty) fun v G' Γ' => G = G' ∧ ∃ A c C, v = .slice A (bytesOf s).length c ∧ Ow (kInt .u8) G A c (bytesOf s) C ∧ Γ' = C :: Γ := by
 obtain ⟨e, h1, h2⟩ := bytesTy_some hd; obtain ⟨u, hu⟩ := Option.isSome_iff_exists.1 hs; have hlen : (bytesOf s).length = s.size := by unfold bytesOf; rw [List.length_map]; rfl
 refine Does.of_val (s := convert src dst (rho L x)) fun W hI => ?_
 rw [rho_of hx]; have hge : s.size ≤ grownCap W s.size 0 e := grownCap_ge W s.size 0 e; have hsz : (Lib.bytesCells W e s).size = grownCap W s.size 0 e * (kInt .u8).sz := by
  have e1 : (Lib.bytesCells W e s).size = s.data.size + (grownCap W s.size 0 e - s.size) := by unfold Lib.bytesCells; rw [Array.size_append, Array.size_map, Array.size_replicate]
  have e2 : s.data.size = s.size := by rfl
  show _ = grownCap W s.size 0 e * 1; omega
 refine ⟨_, Lib.bytesWorld W e s, G, _, Lib.run_convert_string_bytes W src dst e s hu h1 h2, ⟨rfl, some ⟨W.heap.size, 0, none⟩, _, _, by rw [hlen], ⟨by rw [hlen]; exact hge, .inr ⟨W.heap.size, Lib.bytesCells W e s, e, ((Lib.bytesCells W e s).size, (Lib.bytesCells W e s).size + 1), rfl, rfl, hsz, ?_, ?_⟩⟩, rfl⟩, ?_⟩
 ·exact .inr (Nat.le_refl _)
 ·intro i hi; refine ⟨_, rfl, fun j hj => ?_⟩; have hj0 : j = 0 := by simp at hj; omega
  subst hj0; have hi' : i < s.data.size := by rw [hlen] at hi; exact hi
  have hi2 : i < s.size := hi'; simp [Lib.bytesCells, kInt, Array.getElem?_append, hi2, bytesOf]
 ·have hI' := hI.drew.alloc (.cells (Lib.bytesCells W e s) e); have := hI'.write (o' := .cells (Lib.bytesCells W e s) e ((Lib.bytesCells W e s).size, (Lib.bytesCells W e s).size + 1)) (W' := Lib.bytesWorld W e s) ?_ ?_ ?_ (Lib.bytesWorld_at_new W e s) (fun k hk => ?_)
  ·exact this
  ·unfold Lib.bytesWorld World.freeze; split <;> rfl
  ·unfold Lib.bytesWorld World.freeze; split <;> rfl
  ·unfold Lib.bytesWorld World.freeze; split <;> rfl
  ·unfold Lib.bytesWorld World.freeze
   split
   ·rfl
   ·simp only [Array.getElem?_modify]; rw [if_neg (fun e => hk e.symm)]; rfl
end Go.Gg
