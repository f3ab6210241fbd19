/- Kinds that speak of themselves: a struct that holds a slice of such structs. -/
import Derived.Test.YtmgkpphbehamcaaGreatDoorGgL
import Derived.Test.YtmgkpphbehamcaaGreatDoorGgH
import Derived.Test.YtmgkpphbehamcaaGreatDoorGgU
namespace Go.Gg
set_option linter.unusedVariables false
open Go
theorem Rd.kind {α : Type} {k k' : Kd α} (hs : k.sz = k'.sz) (h : ∀ G x cs, k.rel G x cs → k'.rel G x cs) {G : GMap} {A : Option Addr} {c : Nat} {xs : List α} (hr : Rd k G A c xs) : Rd k' G A c xs := by
 refine ⟨hr.1, fun hx => ?_⟩; obtain ⟨ad, e, s, cells, T, fr, hc, hl⟩ := hr.2 hx; refine ⟨ad, e, s, cells, T, fr, hc, fun i hi => ?_⟩; obtain ⟨cs, h1, h2⟩ := hl i hi; exact ⟨cs, h _ _ _ h1, fun j hj => by rw [← hs]; exact h2 j hj⟩
theorem chain_all {P : Nat → Nat → Prop} (hm : ∀ n i, P n i → P (n + 1) i) : ∀ m, (∀ i, i < m → ∃ n, P n i) → ∃ N, ∀ i, i < m → P N i
 | 0, _ => ⟨0, fun i h => absurd h (by omega)⟩
 | m + 1, h => by
  have up : ∀ i n d, P n i → P (n + d) i := by
   intro i n d hp
   induction d with
   | zero => exact hp
   | succ d ih => exact hm _ _ ih
  obtain ⟨N, hN⟩ := chain_all hm m (fun i hi => h i (by omega)); obtain ⟨n, hn⟩ := h m (by omega); refine ⟨N + n, fun i hi => ?_⟩; by_cases e : i = m
  ·subst e; rw [Nat.add_comm]; exact up _ _ _ hn
  ·exact up _ _ _ (hN i (by omega))
structure Fk (α β : Type) where
 F : Kd α → Kd β
 sz : Nat
 hsz : ∀ k, (F k).sz = sz
 mono : ∀ k k', k.sz = k'.sz → (∀ G x cs, k.rel G x cs → k'.rel G x cs) → ∀ G x cs, (F k).rel G x cs → (F k').rel G x cs
 cont : ∀ (K : Nat → Kd α) (kU : Kd α), (∀ n, (K n).sz = kU.sz) → (∀ n G x cs, (K n).rel G x cs → (K (n + 1)).rel G x cs) → (∀ G x cs, kU.rel G x cs → ∃ n, (K n).rel G x cs) → ∀ G x cs, (F kU).rel G x cs → ∃ n, (F (K n)).rel G x cs
def Fk.slice {α : Type} : Fk α (List α) where
 F := kSlice
 sz := 1
 hsz := fun _ => rfl
 mono := fun k k' hs h G x cs ⟨A, c, e, hr⟩ => ⟨A, c, e, hr.kind hs h⟩
 cont := fun K kU hs hm hU G x cs ⟨A, c, e, hr⟩ => by
  by_cases hx : x = []
  ·subst hx; exact ⟨0, A, c, e, Rd.nil _ _ _ _⟩
  ·obtain ⟨ad, ea, s, cells, T, fr, hc, hl⟩ := hr.2 hx; obtain ⟨N, hN⟩ := chain_all (P := fun n i => ∀ (hi : i < x.length), ∃ cs, (K n).rel G x[i] cs ∧ ∀ j (hj : j < cs.length), cells[ad.off + i * kU.sz + j]? = some cs[j])
    (fun n i h hi => let ⟨cs, h1, h2⟩ := h hi; ⟨cs, hm _ _ _ _ h1, h2⟩) x.length (fun i hi => by
     obtain ⟨cs, h1, h2⟩ := hl i hi; obtain ⟨n, hn⟩ := hU _ _ _ h1; exact ⟨n, fun _ => ⟨cs, hn, h2⟩⟩)
   refine ⟨N, A, c, e, hr.1, fun _ => ⟨ad, ea, s, cells, T, fr, hc, fun i hi => ?_⟩⟩; obtain ⟨cs, h1, h2⟩ := hN i hi hi; exact ⟨cs, h1, fun j hj => by rw [hs]; exact h2 j hj⟩
def Fk.pair {α β γ : Type} (a : Kd γ) (φ : Fk α β) : Fk α (γ × β) where
 F := fun k => kPair a (φ.F k)
 sz := a.sz + φ.sz
 hsz := fun k => by show a.sz + (φ.F k).sz = _; rw [φ.hsz]
 mono := fun k k' hs h G x cs ⟨c1, c2, e, h1, h2⟩ => ⟨c1, c2, e, h1, φ.mono k k' hs h _ _ _ h2⟩
 cont := fun K kU hs hm hU G x cs ⟨c1, c2, e, h1, h2⟩ => let ⟨n, hn⟩ := φ.cont K kU hs hm hU _ _ _ h2; ⟨n, c1, c2, e, h1, hn⟩
def Fk.iso {α β δ : Type} (f : δ → β) (φ : Fk α β) : Fk α δ where
 F := fun k => kIso f (φ.F k)
 sz := φ.sz
 hsz := fun k => φ.hsz k
 mono := fun k k' hs h G x cs hr => φ.mono k k' hs h _ _ _ hr
 cont := fun K kU hs hm hU G x cs hr => φ.cont K kU hs hm hU _ _ _ hr
def Fk.N {α : Type} (φ : Fk α α) : Nat → Kd α
 | 0 => ⟨φ.sz, fun _ _ _ => False, fun h => h.elim, fun h => h.elim, fun _ h => h⟩
 | n + 1 => φ.F (φ.N n)
theorem Fk.N_sz {α : Type} (φ : Fk α α) : ∀ n, (φ.N n).sz = φ.sz
 | 0 => rfl
 | n + 1 => φ.hsz _
theorem Fk.N_step {α : Type} (φ : Fk α α) : ∀ n G x cs, (φ.N n).rel G x cs → (φ.N (n + 1)).rel G x cs
 | 0, _, _, _, h => h.elim
 | n + 1, _, _, _, h => φ.mono _ _ ((φ.N_sz n).trans (φ.N_sz (n + 1)).symm) (φ.N_step n) _ _ _ h
def Fk.fix {α : Type} (φ : Fk α α) : Kd α where
 sz := φ.sz
 rel := fun G x cs => ∃ n, (φ.N n).rel G x cs
 len := fun ⟨n, h⟩ => ((φ.N n).len h).trans (φ.N_sz n)
 one := fun ⟨n, h⟩ => (φ.N n).one h
 mono := fun hG ⟨n, h⟩ => ⟨n, (φ.N n).mono hG h⟩
theorem Fk.fix_out {α : Type} {φ : Fk α α} {G : GMap} {x : α} {cs : List Value} (h : φ.fix.rel G x cs) : (φ.F φ.fix).rel G x cs := by
 obtain ⟨n, h⟩ := h
 cases n with
 | zero => exact h.elim
 | succ n => exact φ.mono (φ.N n) φ.fix (φ.N_sz n) (fun G x cs h => ⟨n, h⟩) _ _ _ h
theorem Fk.fix_in {α : Type} {φ : Fk α α} {G : GMap} {x : α} {cs : List Value} (h : (φ.F φ.fix).rel G x cs) : φ.fix.rel G x cs := by
 obtain ⟨n, hn⟩ := φ.cont φ.N φ.fix (fun n => φ.N_sz n) φ.N_step (fun G x cs h => h) _ _ _ h; exact ⟨n + 1, hn⟩
def OpensD {α : Type} (P : Program) (t : TypeId) (kd : Kd α) (ok : α → Prop) (N : Nat) : Prop :=
 ∀ {H : Type} (enc : TypeId × Value → H) (W : World) (spare : Nat → Bool) (held : Bool) (fuel : Nat) (cs : List Value) (d : DataW H) (ps : List MemPlace), SizeOf.sizeOf d < N →
  DataW.trod enc P W 0 spare held fuel t cs = some (d, ps) → ∃ x, kd.rel (heapG W) x cs ∧ ok x
theorem OpensD.all {α : Type} {P : Program} {t : TypeId} {kd : Kd α} {ok : Nat → α → Prop} (h : ∀ N, OpensD P t kd (ok N) N) : Opens P t kd (fun x => ∃ n, ok n x) := by
 intro H enc W spare held fuel cs d ps hd; obtain ⟨x, h1, h2⟩ := h (SizeOf.sizeOf d + 1) enc W spare held fuel cs d ps (by omega) hd; exact ⟨x, h1, _, h2⟩
theorem OpensD.slice {α : Type} {P : Program} {t e : TypeId} {kd : Kd α} {ok : α → Prop} {N : Nat} (ht : P.underlying t = some (.slice e)) (he : OpensD P e kd ok N) (hc : P.cellsOf e = kd.sz) (h0 : 0 < kd.sz) :
  OpensD P t (kSlice kd) (fun xs => xs.length ≤ maxLen ∧ ∀ x ∈ xs, ok x) N := by
 intro H enc W spare held fuel cs d ps hN h; rcases Deep.open_slice ht h with ⟨rfl, _⟩ | ⟨a, len, cap, m, n, D, Pl, rfl, _, hl, hm, hmm, hd, hx⟩
 ·exact ⟨[], ⟨none, 0, rfl, Rd.nil _ _ _ _⟩, by simp, by simp⟩
 ·have hd1 : d = .slice ((List.range len).map D) ((List.range (m - len)).map fun j => D (len + j)) := congrArg Prod.fst hd; have hlm : len ≤ m := by rw [hmm]; split <;> omega
  obtain ⟨xs, hxl, hxs⟩ := listOf (Q := fun i x => ok x ∧ ∃ cs', kd.rel (heapG W) x cs' ∧ ∀ j (hj : j < cs'.length), W.cell? (a.add (i * kd.sz + j)) = some cs'[j]) len (fun i hi => by
   obtain ⟨cs', h1, h2⟩ := hx i (by omega); have hsz : SizeOf.sizeOf (D i) < N := by
    have hm : D i ∈ (List.range len).map D := List.mem_map.2 ⟨i, List.mem_range.2 hi, rfl⟩; have := List.sizeOf_lt_of_mem hm; rw [hd1] at hN; simp only [DataW.slice.sizeOf_spec] at hN; omega
   obtain ⟨x, hr, hk⟩ := he enc W spare held n cs' _ _ hsz h2; obtain ⟨h3, h4⟩ := cells_some h1; exact ⟨x, hk, cs', hr, fun j hj => by have := h4 j hj; rwa [add_add, hc] at this⟩)
  subst hxl; refine ⟨xs, ⟨some a, cap, rfl, hl, fun hne => ?_⟩, Nat.le_trans hl hm, fun x hx' => ?_⟩
  ·have hpos : 0 < xs.length := List.length_pos_iff.2 hne; obtain ⟨_, cs0, hr0, hc0⟩ := hxs 0 hpos; have hl0 := kd.len hr0; have h00 := hc0 0 (by omega); have hsp : a.spot = none := by
    simp only [Nat.zero_mul, Nat.zero_add, Addr.add, if_true, World.cell?] at h00
    split at h00
    ·split at h00
     ·cases h00
     ·rename_i hs; simpa using hs
    ·cases h00
   have hb : ∃ cells T fr, W.heap[a.block]? = some (.cells cells T fr) := by
    simp only [Nat.zero_mul, Nat.zero_add, Addr.add, if_true, World.cell?] at h00
    split at h00
    ·rename_i c T fr hh; exact ⟨c, T, fr, hh⟩
    ·cases h00
   obtain ⟨cells, T, fr, hb⟩ := hb; refine ⟨a, rfl, hsp, cells, T, fr, hb, fun i hi => ?_⟩; obtain ⟨_, cs', hr, hcc⟩ := hxs i hi; refine ⟨cs', hr, fun j hj => ?_⟩; have := hcc j hj; rw [add_off hsp, cell_of_block hb] at this; rw [Nat.add_assoc]; exact this
  ·obtain ⟨i, hi, rfl⟩ := List.mem_iff_getElem.1 hx'; exact (hxs i hi).1
end Go.Gg
namespace Go.Gg
set_option linter.unusedVariables false
open Go
variable {P : Program} {B : World} {G G' : GMap} {Γ : List Chunk} {W : World} {α β γ : Type} {L : Env} {n : Nat} {Q : Exit → Act → World → Prop} {ops : Array Oper}
theorem Dp.rdAll {dk : Dk α} {A : Option Addr} {c : Nat} {xs : List α} {C : Chunk} (h : Dp dk G A c xs C) (hall : ∀ p ∈ C, G' p.1 = some p.2) : Rd dk.k G' A c xs := by
 obtain ⟨rs, C0, Cs, ho, rfl, hl, hl2, hr⟩ := h; refine ⟨by rw [← hl]; exact ho.1, fun hx => ?_⟩; rcases ho.2 with ⟨_, e, _⟩ | ⟨b, cells, T, fr, e, rfl, hsz, _, hlies⟩
 ·rw [e] at hl; exact absurd (List.length_eq_zero_iff.1 hl.symm) hx
 ·refine ⟨⟨b, 0, none⟩, e, rfl, cells, T, fr, hall (b, .cells cells T fr) (by simp), fun i hi => ?_⟩; obtain ⟨cs, hcs, hc⟩ := hlies i (by omega); have hcs : cs = (rs[i]'(by omega)).1 := hcs; refine ⟨cs, ?_, hc⟩; rw [hcs]; refine dk.fr (hr i hi (by omega) (by omega)) fun p hp => hall p ?_
  rw [List.mem_append]; exact .inr (List.mem_flatten.2 ⟨_, List.getElem_mem _, hp⟩)
def dDeep (a : Dk α) : Dk (List α) where
 k := kSlice a.k
 rel xs cs C := ∃ A c, cs = [.slice A xs.length c] ∧ Dp a G0 A c xs C
 len := fun ⟨_, _, h, _⟩ => by rw [h]; rfl
 one := fun ⟨_, _, h, _⟩ => by rw [h]; simp [one1]
 fr := fun ⟨A, c, h, ho⟩ hC => ⟨A, c, h, ho.rdAll hC⟩
/-- What such a kind tells, its plain kind known. -/
structure DR (k : Kd α) where
 rel : α → List Value → Chunk → Prop
 len : ∀ {x cs C}, rel x cs C → cs.length = k.sz
 one : ∀ {x cs C}, rel x cs C → ∀ u ∈ cs, one1 u = true
 fr : ∀ {G x cs C}, rel x cs C → (∀ p ∈ C, G p.1 = some p.2) → k.rel G x cs
def DR.dk {k : Kd α} (r : DR k) : Dk α := ⟨k, r.rel, r.len, r.one, r.fr⟩
/-- A kind's shape, over itself. -/
structure DF (k : Kd α) where
 F : DR k → Dk α
 hz : ∀ r, (F r).k.sz = k.sz
 hin : ∀ r G x cs, (F r).k.rel G x cs → k.rel G x cs
 hm : ∀ r r' : DR k, (∀ x cs C, r.rel x cs C → r'.rel x cs C) → ∀ x cs C, (F r).rel x cs C → (F r').rel x cs C
 hc : ∀ (K : Nat → DR k) (U : DR k), (∀ n x cs C, (K n).rel x cs C → (K (n + 1)).rel x cs C) → (∀ x cs C, U.rel x cs C → ∃ n, (K n).rel x cs C) → ∀ x cs C, (F U).rel x cs C → ∃ n, (F (K n)).rel x cs C
def DF.N {k : Kd α} (φ : DF k) : Nat → DR k
 | 0 => ⟨fun _ _ _ => False, fun h => h.elim, fun h => h.elim, fun h => h.elim⟩
 | n + 1 => ⟨(φ.F (φ.N n)).rel, fun h => ((φ.F (φ.N n)).len h).trans (φ.hz _), fun h => (φ.F (φ.N n)).one h, fun h hC => φ.hin _ _ _ _ ((φ.F (φ.N n)).fr h hC)⟩
theorem DF.N_step {k : Kd α} (φ : DF k) : ∀ n x cs C, (φ.N n).rel x cs C → (φ.N (n + 1)).rel x cs C
 | 0, _, _, _, h => h.elim
 | n + 1, x, cs, C, h => φ.hm (φ.N n) (φ.N (n + 1)) (φ.N_step n) x cs C h
def DF.fix {k : Kd α} (φ : DF k) : DR k := ⟨fun x cs C => ∃ n, (φ.N n).rel x cs C, fun ⟨n, h⟩ => (φ.N n).len h, fun ⟨n, h⟩ => (φ.N n).one h, fun ⟨n, h⟩ hC => (φ.N n).fr h hC⟩
theorem DF.out {k : Kd α} {φ : DF k} {x : α} {cs : List Value} {C : Chunk} (h : φ.fix.dk.rel x cs C) : (φ.F φ.fix).rel x cs C := by
 obtain ⟨n, h⟩ := h
 cases n with
 | zero => exact h.elim
 | succ n => exact φ.hm (φ.N n) φ.fix (fun x cs C h => ⟨n, h⟩) _ _ _ h
theorem DF.in_ {k : Kd α} {φ : DF k} {x : α} {cs : List Value} {C : Chunk} (h : (φ.F φ.fix).rel x cs C) : φ.fix.dk.rel x cs C := by
 obtain ⟨n, hn⟩ := φ.hc φ.N φ.fix φ.N_step (fun x cs C h => h) _ _ _ h; exact ⟨n + 1, hn⟩
theorem dPair_imp {a : Dk α} {b b' : Dk β} (h : ∀ x cs C, b.rel x cs C → b'.rel x cs C) : ∀ x cs C, (dPair a b).rel x cs C → (dPair a b').rel x cs C :=
 fun _ _ _ ⟨c1, c2, C1, C2, e, e', h1, h2⟩ => ⟨c1, c2, C1, C2, e, e', h1, h _ _ _ h2⟩
theorem dPair_ex {a : Dk α} {b : Dk β} {b' : Nat → Dk β} (h : ∀ x cs C, b.rel x cs C → ∃ n, (b' n).rel x cs C) : ∀ x cs C, (dPair a b).rel x cs C → ∃ n, (dPair a (b' n)).rel x cs C :=
 fun _ _ _ ⟨c1, c2, C1, C2, e, e', h1, h2⟩ => let ⟨n, hn⟩ := h _ _ _ h2; ⟨n, c1, c2, C1, C2, e, e', h1, hn⟩
theorem Dp.imp {k : Kd α} {r r' : DR k} (h : ∀ x cs C, r.rel x cs C → r'.rel x cs C) {A : Option Addr} {c : Nat} {xs : List α} {C : Chunk} (hd : Dp r.dk G A c xs C) : Dp r'.dk G A c xs C :=
 let ⟨rs, C0, Cs, ho, e, hl, hl2, hr⟩ := hd; ⟨rs, C0, Cs, ho, e, hl, hl2, fun i h0 h1 h2 => h _ _ _ (hr i h0 h1 h2)⟩
theorem dDeep_imp {k : Kd α} {r r' : DR k} (h : ∀ x cs C, r.rel x cs C → r'.rel x cs C) : ∀ x cs C, (dDeep r.dk).rel x cs C → (dDeep r'.dk).rel x cs C :=
 fun _ _ _ ⟨A, c, e, hd⟩ => ⟨A, c, e, hd.imp h⟩
theorem bound_all {Pr : Nat → Nat → Prop} (hm : ∀ i n, Pr i n → Pr i (n + 1)) : ∀ m, (∀ i, i < m → ∃ n, Pr i n) → ∃ n, ∀ i, i < m → Pr i n
 | 0, _ => ⟨0, fun i h => absurd h (by omega)⟩
 | m + 1, h => by
  obtain ⟨a, ha⟩ := bound_all hm m fun i hi => h i (by omega)
  obtain ⟨b, hb⟩ := h m (by omega); have up : ∀ i n e, Pr i n → Pr i (n + e) := fun i n e hp => by
   induction e with
   | zero => exact hp
   | succ e ih => exact hm i (n + e) ih
  refine ⟨a + b, fun i hi => ?_⟩; by_cases e : i = m
  ·subst e; rw [Nat.add_comm]; exact up i b a hb
  ·exact up i a b (ha i (by omega))
theorem dDeep_ex {k : Kd α} {K : Nat → DR k} {U : DR k} (hm : ∀ n x cs C, (K n).rel x cs C → (K (n + 1)).rel x cs C) (h : ∀ x cs C, U.rel x cs C → ∃ n, (K n).rel x cs C) : ∀ x cs C, (dDeep U.dk).rel x cs C → ∃ n, (dDeep (K n).dk).rel x cs C :=
 fun xs _ _ ⟨A, c, e, rs, C0, Cs, ho, e', hl, hl2, hr⟩ => by
  obtain ⟨n, hn⟩ := bound_all (Pr := fun i n => ∀ (h : i < xs.length) (h1 : i < rs.length) (h2 : i < Cs.length), (K n).rel xs[i] rs[i].1 Cs[i]) (fun i n hp a b c => hm n _ _ _ (hp a b c)) xs.length (fun i hi => by
   obtain ⟨n, hn⟩ := h _ _ _ (hr i hi (by omega) (by omega)); exact ⟨n, fun _ _ _ => hn⟩)
  exact ⟨n, A, c, e, rs, C0, Cs, ho, e', hl, hl2, fun i h0 h1 h2 => hn i h0 h0 h1 h2⟩
theorem Dp.lit1 {dk : Dk α} {b T : Nat} {x : α} {cs : List Value} {C : Chunk} (h : dk.rel x cs C) : Dp dk G (some ⟨b, 0, none⟩) 1 [x] ((b, .cells cs.toArray T (0, 0)) :: C) := by
 have hr : LiesL (kRaw dk.k.sz) G0 [Raw.of cs (dk.len h) (dk.one h)] (cs ++ []) := .cons rfl .nil; have := Ow.lit (b := b) (T := T) hr; rw [List.append_nil] at this; refine ⟨[Raw.of cs (dk.len h) (dk.one h)], [(b, .cells cs.toArray T (0, 0))], [C], this, by simp, rfl, rfl, fun i h0 h1 h2 => ?_⟩; obtain rfl : i = 0 := by simp at h0; exact h0
 exact h
theorem Dp.thin {dk : Dk α} {A : Option Addr} {c : Nat} {xs : List α} {C : Chunk} (h : Dp dk G A c xs C) : ∃ C0 D, C = C0 ++ D ∧ ∀ G' : GMap, (∀ p ∈ D, G' p.1 = some p.2) → Ow dk.k G' A c xs C0 := by
 obtain ⟨rs, C0, Cs, ho, rfl, hl, hl2, hr⟩ := h; refine ⟨C0, Cs.flatten, rfl, fun G' hall => ⟨by rw [← hl]; exact ho.1, ?_⟩⟩; rcases ho.2 with ⟨a, e, f⟩ | ⟨b, cells, T, fr, e, rfl, hsz, hfree, hlies⟩
 ·rw [e] at hl; exact .inl ⟨a, List.length_eq_zero_iff.1 hl.symm, f⟩
 ·refine .inr ⟨b, cells, T, fr, e, rfl, hsz, hfree, fun i hi => ?_⟩; obtain ⟨cs, hcs, hc⟩ := hlies i (by omega); have hcs : cs = (rs[i]'(by omega)).1 := hcs; refine ⟨cs, ?_, hc⟩; rw [hcs]; exact dk.fr (hr i hi (by omega) (by omega)) fun p hp => hall p (List.mem_flatten.2 ⟨_, List.getElem_mem _, hp⟩)
theorem WL.thin {i : Nat} {dk : Dk α} {A : Option Addr} {c : Nat} {xs : List α} {C : Chunk} (h : Dp dk G A c xs C) (k : ∀ G' C0, G.le G' → Ow dk.k G' A c xs C0 → WL P ops Q i n L B G' (C0 :: Γ)) : WL P ops Q i n L B G (C :: Γ) := by
 obtain ⟨C0, D, rfl, ht⟩ := h.thin; refine WL.reperm (Γ' := D :: C0 :: Γ) (by
  simp only [List.flatten_cons]; rw [← List.append_assoc]; exact List.Perm.append_right _ List.perm_append_comm) ?_
 refine WL.freezeN (i := 0) rfl fun G' e le nd => ?_
 refine WL.reperm (Γ' := C0 :: Γ) (by simp) ?_; refine k G' C0 le (ht G' fun p hp => ?_); rw [e]; simp [GMap.add, nodup_lookup nd hp]
end Go.Gg
