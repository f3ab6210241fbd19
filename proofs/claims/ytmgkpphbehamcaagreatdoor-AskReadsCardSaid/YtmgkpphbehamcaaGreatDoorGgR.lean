/- Maps of one's own: made, looked up, written, ranged over. Nothing of any one program is said here. -/
import Derived.Test.YtmgkpphbehamcaaGreatDoorGgU
namespace Go.Gg
open Go
set_option linter.unusedSimpArgs false
set_option linter.unusedSectionVars false
set_option linter.unusedVariables false
variable {P : Program} {B : World} {G G' : GMap} {Γ : List Chunk} {W : World} {L : Env} {ty : TypeId}
section plain
variable {κ ν : Type} [DecidableEq κ]
def mpos (a : κ) : List (κ × ν) → Option Nat
 | [] => none
 | p :: xs => if a = p.1 then some 0 else (mpos a xs).map (· + 1)
def mget : List (κ × ν) → κ → Option ν
 | [], _ => none
 | p :: xs, a => if a = p.1 then some p.2 else mget xs a
def mput : List (κ × ν) → κ → ν → List (κ × ν)
 | [], a, v => [(a, v)]
 | p :: xs, a, v => if a = p.1 then (a, v) :: xs else p :: mput xs a v
def mdel : List (κ × ν) → κ → List (κ × ν)
 | [], _ => []
 | p :: xs, a => if a = p.1 then xs else p :: mdel xs a
theorem mpos_none {a : κ} {xs : List (κ × ν)} (h : mpos a xs = none) : mget xs a = none ∧ (∀ v, mput xs a v = xs ++ [(a, v)]) ∧ mdel xs a = xs ∧ a ∉ xs.map (·.1) := by
 induction xs with
 | nil => exact ⟨rfl, fun _ => rfl, rfl, by simp⟩
 | cons p xs ih =>
  simp only [mpos] at h; by_cases e : a = p.1
  ·rw [if_pos e] at h; cases h
  ·rw [if_neg e] at h; obtain ⟨h1, h2, h3, h4⟩ := ih (by simpa using h); simp only [mget, mput, mdel, if_neg e, h1, h2, h3, List.map_cons, List.mem_cons, not_or]; exact ⟨trivial, fun _ => rfl, trivial, e, h4⟩
theorem mpos_some {a : κ} {xs : List (κ × ν)} {q : Nat} (h : mpos a xs = some q) :
  ∃ v, q < xs.length ∧ xs[q]? = some (a, v) ∧ mget xs a = some v ∧ (∀ v', mput xs a v' = xs.set q (a, v')) ∧ mdel xs a = xs.eraseIdx q := by
 induction xs generalizing q with
 | nil => cases h
 | cons p xs ih =>
  simp only [mpos] at h; by_cases e : a = p.1
  ·rw [if_pos e] at h; cases h; refine ⟨p.2, by simp, by simp [e], ?_, fun v' => ?_, ?_⟩ <;> simp [mget, mput, mdel, e]
  ·rw [if_neg e] at h; obtain ⟨q', hq, rfl⟩ := Option.map_eq_some_iff.1 h; obtain ⟨v, h1, h2, h3, h4, h5⟩ := ih hq; refine ⟨v, by simp; omega, by simpa using h2, by simp [mget, e, h3], fun v' => by simp [mput, e, h4], by simp [mdel, e, h5]⟩
end plain
def mpv (A : Option Addr) : Value := .map (A.map (·.block))
theorem mpv_some (b : Nat) : mpv (some ⟨b, 0, none⟩) = .map (some b) := rfl
theorem run_gmap {b : Nat} {es : Array MapEntry} {clock : Nat} (hb : W.heap[b]? = some (.map es clock)) : (getObj b).run P W = .ok (.map es clock) W := by simp [getObj, Sem.run, hb]
structure Mk (κ ν : Type) where
 key : κ → Value
 val : ν → Value
structure KeyOK {κ : Type} [DecidableEq κ] (P : Program) (kt : TypeId) (ke : κ → Value) : Prop where
 check : ∀ e a W, (Instr.checkKey e 10000 kt (ke a)).run P W = .ok () W
 eq : ∀ a b W, (Op.equal kt (ke a) (ke b)).run P W = .ok (decide (a = b)) W
 now : ∃ td, P.underlying kt = some td ∧ ∀ a b, Instr.sameNow td (ke a) (ke b) = none ∨ Instr.sameNow td (ke a) (ke b) = some (decide (a = b))
 same : ∀ a, Instr.sameBits 10000 (ke a) (ke a) = true
theorem KeyOK.agg {κ : Type} [DecidableEq κ] {P : Program} {kt : TypeId} {ke : κ → Value} (ls : κ → κ → List Lf) {fs : Array Field}
  (h1 : ∀ a, evq P (Instr.checkKey false 10000 kt (ke a)) = some ()) (h2 : ∀ a, evq P (Instr.checkKey true 10000 kt (ke a)) = some ()) (h3 : ∀ a b, eqLv P 16 kt (ke a) (ke b) = some (ls a b))
  (h4 : ∀ a b, (ls a b).all Lf.ok = decide (a = b)) (h5 : P.underlying kt = some (.struct fs)) (h6 : ∀ a b, Instr.sameNow (.struct fs) (ke a) (ke b) = none) (h7 : ∀ a, Instr.sameBits 10000 (ke a) (ke a) = true) : KeyOK P kt ke where
 check e a W := by cases e; exact evq_run (h1 a) W; exact evq_run (h2 a) W
 eq a b W := by
  have := eqLv_run (P := P) (W := W) 9984 16 kt _ _ _ (h3 a b); rw [h4] at this; exact this
 now := ⟨_, h5, fun a b => .inl (h6 a b)⟩
 same := h7
section mem
variable {κ ν : Type} [DecidableEq κ] {m : Mk κ ν}
def Ents (m : Mk κ ν) (es : List MapEntry) (xs : List (κ × ν)) : Prop := es.map (fun e => (e.key, e.val)) = xs.map fun p => (m.key p.1, m.val p.2)
def MpO (m : Mk κ ν) (_G : GMap) (A : Option Addr) (c : Nat) (xs : List (κ × ν)) (C : Chunk) : Prop :=
 c = 0 ∧ ∃ b es clock, A = some ⟨b, 0, none⟩ ∧ C = [(b, .map es clock)] ∧ Ents m es.toList xs ∧ (es.toList.map (·.born)).Nodup ∧ (∀ e ∈ es.toList, e.born < clock) ∧ (xs.map (·.1)).Nodup
theorem MpO.mono {A : Option Addr} {c : Nat} {xs : List (κ × ν)} {C : Chunk} (h : MpO m G A c xs C) (_ : G.le G') : MpO m G' A c xs C := h
theorem MpO.flat {A : Option Addr} {c : Nat} {xs : List (κ × ν)} {C : Chunk} (h : MpO m G A c xs C) (_ : Unit) {G'' : GMap} : MpO m G'' A c xs C := h
theorem MpO.new (m : Mk κ ν) (G : GMap) (b : Nat) : MpO m G (some ⟨b, 0, none⟩) 0 [] [(b, .map #[] 0)] := ⟨rfl, b, #[], 0, rfl, rfl, rfl, by simp, by simp, by simp⟩
theorem MpO.nodup {A : Option Addr} {c : Nat} {xs : List (κ × ν)} {C : Chunk} (h : MpO m G A c xs C) : (xs.map (·.1)).Nodup := by obtain ⟨_, b, es, clock, _, _, _, _, _, h⟩ := h; exact h
theorem MpO.c0 {A : Option Addr} {c : Nat} {xs : List (κ × ν)} {C : Chunk} (h : MpO m G A c xs C) : c = 0 := h.1
theorem Ents.len {es : List MapEntry} {xs : List (κ × ν)} (h : Ents m es xs) : es.length = xs.length := by simpa using congrArg List.length h
theorem Ents.at {es : List MapEntry} {xs : List (κ × ν)} (h : Ents m es xs) (q : Nat) : (es[q]?).map (fun e => (e.key, e.val)) = (xs[q]?).map fun p => (m.key p.1, m.val p.2) := by
 have := congrArg (fun l => l[q]?) h; simpa using this
variable {kt et : TypeId}
theorem run_findAsking (hk : KeyOK P kt m.key) (a : κ) (W : World) : ∀ (es : List MapEntry) (xs : List (κ × ν)) (i : Nat), Ents m es xs →
  (Instr.findAsking kt (m.key a) es i).run P W = .ok ((mpos a xs).bind fun q => (mget xs a).map fun v => (i + q, m.val v)) W := by
 intro es
 induction es with
 | nil => intro xs i h; cases xs with
  | nil => simp [Instr.findAsking, mpos]
  | cons => simp [Ents] at h
 | cons e es ih =>
  intro xs i h
  cases xs with
  | nil => simp [Ents] at h
  | cons p xs =>
   simp only [Ents, List.map_cons, List.cons.injEq, Prod.mk.injEq] at h; obtain ⟨⟨h1, h2⟩, h3⟩ := h; simp only [Instr.findAsking, Sem.run_bind, h1, hk.eq, Result.andThen_ok]; by_cases e : a = p.1
   ·simp [e, mpos, mget, h2]
   ·simp only [decide_eq_false e, Bool.false_eq_true, if_false]; rw [ih xs (i + 1) h3]; simp only [mpos, mget, if_neg e]
    cases mpos a xs <;> simp
    rename_i q
    cases mget xs a <;> simp
    omega
theorem findNow_res (hk : KeyOK P kt m.key) (a : κ) {td : TypeDesc} (hn : ∀ a b, Instr.sameNow td (m.key a) (m.key b) = none ∨ Instr.sameNow td (m.key a) (m.key b) = some (decide (a = b))) :
  ∀ (es : List MapEntry) (xs : List (κ × ν)) (i : Nat), Ents m es xs → Instr.findNow td (m.key a) es i = none ∨
   Instr.findNow td (m.key a) es i = some ((mpos a xs).bind fun q => (mget xs a).map fun v => (i + q, m.val v)) := by
 intro es
 induction es with
 | nil => intro xs i h; cases xs with
  | nil => right; simp [Instr.findNow, mpos]
  | cons => simp [Ents] at h
 | cons e es ih =>
  intro xs i h
  cases xs with
  | nil => simp [Ents] at h
  | cons p xs =>
   simp only [Ents, List.map_cons, List.cons.injEq, Prod.mk.injEq] at h; obtain ⟨⟨h1, h2⟩, h3⟩ := h; simp only [Instr.findNow, h1]; rcases hn a p.1 with e0 | e0
   ·left; rw [e0]
   ·rw [e0]; by_cases e : a = p.1
    ·right; simp [e, mpos, mget, h2]
    ·simp only [decide_eq_false e]; rcases ih xs (i + 1) h3 with e1 | e1
     ·left; exact e1
     ·right; rw [e1]; simp only [mpos, mget, if_neg e]
      cases mpos a xs <;> simp
      rename_i q
      cases mget xs a <;> simp
      omega
theorem run_findKey (hk : KeyOK P kt m.key) (a : κ) {es : List MapEntry} {xs : List (κ × ν)} (h : Ents m es xs) (W : World) :
  (Instr.findKey kt (m.key a) es).run P W = .ok ((mpos a xs).bind fun q => (mget xs a).map fun v => (q, m.val v)) W := by
 obtain ⟨td, hu, hn⟩ := hk.now; unfold Instr.findKey; rw [Sem.run_bind, run_underlying hu, Result.andThen_ok]; rcases findNow_res hk a hn es xs 0 h with e | e
 ·rw [e]; simp only; rw [run_findAsking hk a W es xs 0 h]; simp
 ·rw [e]; simp
theorem Inv.atMap {i : Nat} {A : Option Addr} {c : Nat} {xs : List (κ × ν)} {C : Chunk} (h : MpO m G A c xs C) (hi : Γ[i]? = some C) (hI : Inv B G' Γ W) :
  ∃ b es clock, A = some ⟨b, 0, none⟩ ∧ C = [(b, .map es clock)] ∧ W.heap[b]? = some (.map es clock) ∧ Ents m es.toList xs ∧ (es.toList.map (·.born)).Nodup ∧ (∀ e ∈ es.toList, e.born < clock) ∧ (xs.map (·.1)).Nodup := by
 obtain ⟨_, b, es, clock, hA, hC, h1, h2, h3, h4⟩ := h; exact ⟨b, es, clock, hA, hC, hI.chunk (hC ▸ hi), h1, h2, h3, h4⟩
def mapTy (P : Program) (t : TypeId) : Option (TypeId × TypeId) := match P.underlying t with | some (.map k e) => some (k, e) | _ => none
theorem mapTy_some {t kt et : TypeId} (h : mapTy P t = some (kt, et)) : P.underlying t = some (.map kt et) := by
 unfold mapTy at h
 split at h
 ·cases h; assumption
 ·cases h
theorem run_lookup {t : TypeId} (ht : mapTy P t = some (kt, et)) (hk : KeyOK P kt m.key) {A : Option Addr} {c : Nat} {xs : List (κ × ν)} {C : Chunk} (h : MpO m G A c xs C) {i : Nat} (hi : Γ[i]? = some C) (hI : Inv B G' Γ W) (a : κ) {z : ν}
  (hz : (P.info? et).bind (·.zero) = some (m.val z)) (ok : Bool) :
  (Instr.lookup t (mpv A) (m.key a) ok).run P W = .ok (if ok then .tuple #[m.val ((mget xs a).getD z), .bool (mget xs a).isSome] else m.val ((mget xs a).getD z)) W := by
 obtain ⟨b, es, clock, rfl, rfl, hb, h1, h2, h3, h4⟩ := Inv.atMap h hi hI; obtain ⟨info, hinfo, hzero⟩ := Option.bind_eq_some_iff.1 hz; unfold Instr.lookup; rw [Sem.run_bind, run_underlying (mapTy_some ht), Result.andThen_ok]; simp only [mpv_some, Option.map_some, Sem.run_bind, run_gmap hb, Result.andThen_ok, Sem.run_pure, hk.check, run_findKey hk a h1]
 cases hq : mpos a xs with
 | none =>
  have := (mpos_none hq).1; have hzr : (zeroValue et).run P W = .ok (m.val z) W := by simp [zeroValue, typeInfo, hinfo, hzero, go_sem]
  simp [this, hzr]
 | some q =>
  obtain ⟨v, _, _, hv, _⟩ := mpos_some hq; simp [hv]
theorem Tells.lookup {t : TypeId} (ht : mapTy P t = some (kt, et)) (hk : KeyOK P kt m.key) {A : Option Addr} {c : Nat} {xs : List (κ × ν)} {C : Chunk} (h : MpO m G A c xs C) {i : Nat} (hi : Γ[i]? = some C) {x y : Operand} {a : κ} {z : ν}
  (hx : evalE L x = some (mpv A)) (hy : evalE L y = some (m.key a)) (hz : (P.info? et).bind (·.zero) = some (m.val z)) :
  Tells P B G Γ (exec1 (rho L) (.lookup t x y false) ty) (m.val ((mget xs a).getD z)) := by
 refine Tells.of_run (s := Instr.lookup t (rho L x) (rho L y) false) fun W hI => ?_
 rw [rho_of hx, rho_of hy, run_lookup ht hk h hi hI a hz false]; rfl
theorem Ents.set {es : List MapEntry} {xs : List (κ × ν)} (h : Ents m es xs) {q : Nat} {a : κ} {v : ν} : Ents m (es.modify q fun e => { e with key := m.key a, val := m.val v }) (xs.set q (a, v)) := by
 unfold Ents; apply List.ext_getElem?; intro j; have hj := h.at j; simp only [List.getElem?_map, List.getElem?_modify, List.getElem?_set]; by_cases e : q = j
 ·subst e; simp only [if_true]; have hl := h.len; by_cases hq : q < xs.length
  ·rw [if_pos hq]; have : q < es.length := by omega
   simp [this]
  ·rw [if_neg hq]; have : es[q]? = none := List.getElem?_eq_none (by omega); simp [this]
 ·simp only [if_neg e]
  cases he : es[j]? with
  | none => rw [he] at hj; simpa using hj
  | some x => rw [he] at hj; simpa using hj
theorem nodup_at {α : Type} {l : List α} (h : l.Nodup) {q q' : Nat} (hq : q < l.length) (hq' : q' < l.length) (e : l[q] = l[q']) : q = q' := by
 have h := List.pairwise_iff_getElem.1 h; rcases Nat.lt_trichotomy q q' with hl | hl | hl
 ·exact absurd e (h q q' hq hq' hl)
 ·exact hl
 ·exact absurd e.symm (h q' q hq' hq hl)
def Cur (m : Mk κ ν) (C Ci : Chunk) (a : κ) (v : ν) : Prop :=
 ∃ (b : Nat) (es : Array MapEntry) (clock bi : Nat) (sb : Array Nat) (e : MapEntry), C = [(b, .map es clock)] ∧ Ci = [(bi, .mapIter (some b) clock sb clock)] ∧
  sb.back? = some e.born ∧ es.find? (fun z => z.born == e.born) = some e ∧ e.key = m.key a ∧ e.val = m.val v
def It (_m : Mk κ ν) (xs : List (κ × ν)) (C : Chunk) (bi : Nat) (seen : List κ) (Ci : Chunk) : Prop :=
 ∃ (b : Nat) (es : Array MapEntry) (clock : Nat) (sb : Array Nat), C = [(b, .map es clock)] ∧ Ci = [(bi, .mapIter (some b) clock sb clock)] ∧
  ∀ (q : Nat) (e : MapEntry) (p : κ × ν), es.toList[q]? = some e → xs[q]? = some p → (e.born ∈ sb.toList ↔ p.1 ∈ seen)
theorem Does.range {t : TypeId} (ht : mapTy P t = some (kt, et)) {A : Option Addr} {c : Nat} {xs : List (κ × ν)} {C : Chunk} (h : MpO m G A c xs C) {i : Nat} (hi : Γ[i]? = some C) {x : Operand}
  (hx : evalE L x = some (mpv A)) :
  Does P B G Γ (exec1 (rho L) (.range t x) ty) fun v G' Γ' => ∃ bi Ci, v = .pointer (some ⟨bi, 0, none⟩) ∧ It m xs C bi [] Ci ∧ G = G' ∧ Γ' = Ci :: Γ := by
 refine Does.of_val (s := Instr.range t (rho L x)) fun W hI => ?_
 rw [rho_of hx]; obtain ⟨b, es, clock, rfl, rfl, hb, h1, h2, h3, h4⟩ := Inv.atMap h hi hI; unfold Instr.range; have hr : (do
   let it ← match TypeDesc.map kt et, Value.map (some b) with
    | .string, .string s => pure (.stringIter s 0)
    | .map _ _, .map none => pure (.mapIter none 0 #[] 0)
    | .map _ _, .map (some m) => do
     let .map _ clock ← getObj m | stuck "Range: map expected"
     pure (.mapIter (some m) clock #[] clock)
    | _, _ => stuck "Range: string or map expected"
   pure (Value.pointer (some ⟨← newObj it, 0, none⟩)) : Sem Value).run P W = .ok (.pointer (some ⟨W.heap.size, 0, none⟩)) { W with heap := W.heap.push (.mapIter (some b) clock #[] clock) } := by
  simp [run_gmap hb, go_sem, newObj, Sem.run]
 refine ⟨_, _, G, _, ?_, ⟨W.heap.size, _, rfl, ⟨b, es, clock, #[], rfl, rfl, fun q e p _ _ => by simp⟩, rfl, rfl⟩, hI.alloc (.mapIter (some b) clock #[] clock)⟩; rw [Sem.run_bind, run_underlying (mapTy_some ht), Result.andThen_ok]; exact hr
theorem Does.next {A : Option Addr} {c : Nat} {xs : List (κ × ν)} {C Ci : Chunk} (h : MpO m G A c xs C) {bi : Nat} {seen : List κ} (hit : It m xs C bi seen Ci) {i j : Nat} (hi : Γ[i]? = some C) (hj : Γ[j]? = some Ci) {x : Operand}
  (hx : evalE L x = some (.pointer (some ⟨bi, 0, none⟩))) :
  Does P B G Γ (exec1 (rho L) (.next x false) ty) fun v G' Γ' => (v = .tuple #[.bool false] ∧ (∀ p ∈ xs, p.1 ∈ seen) ∧ G = G' ∧ Γ' = Γ) ∨
   ∃ a e Ci', v = .tuple #[.bool true, m.key a, m.val e] ∧ (a, e) ∈ xs ∧ a ∉ seen ∧ It m xs C bi (a :: seen) Ci' ∧ Cur m C Ci' a e ∧ G = G' ∧ Γ' = Γ.set j Ci' := by
 refine Does.of_val (s := Instr.next (rho L x) false ty) fun W hI => ?_
 rw [rho_of hx]; obtain ⟨b, es, clock, rfl, rfl, hb, h1, h2, h3, h4⟩ := Inv.atMap h hi hI; obtain ⟨b', es', clock', sb, e1, rfl, hrel⟩ := hit; simp only [List.cons.injEq, Prod.mk.injEq, Obj.map.injEq, and_true] at e1; obtain ⟨rfl, rfl, rfl⟩ := e1; have hbi := hI.chunk hj; have hgi : (getObj bi).run P W = .ok (.mapIter (some b) clock sb clock) W := by simp [getObj, Sem.run, hbi]
 have hnot : (!sb.isEmpty && !es.isEmpty && es.all (fun e => decide (e.born ≥ clock))) = false := by
  cases hes : es.isEmpty with
  | true => simp
  | false =>
   have : es.all (fun e => decide (e.born ≥ clock)) = false := by
    rw [Bool.eq_false_iff]; intro hall; have hpos : 0 < es.size := by
     rcases Nat.eq_zero_or_pos es.size with e | e
     ·rw [Array.isEmpty_iff_size_eq_zero.2 e] at hes; cases hes
     ·exact e
    have := Array.all_eq_true.1 hall 0 hpos; have h3' := h3 es[0] (by simp); simp at this; omega
   rw [this]; simp
 let left := es.filter fun e => !sb.contains e.born
 have hlt : ∀ e ∈ left, e.born < clock := fun e he => h3 e (by have := (Array.mem_filter.1 he).1; simpa using this)
 have hold : left.filter (fun e => decide (e.born < clock)) = left := by
  rw [Array.filter_eq_self]; intro e he; simpa using hlt e he
 have hnew : left.filter (fun e => decide (e.born ≥ clock)) = #[] := by
  rw [Array.filter_eq_empty_iff]; intro e he; have := hlt e he; simpa using this
 have hstep : ∀ cands : Array (Option MapEntry), cands = (if left.isEmpty then #[none] else #[]) ++ (left ++ #[]).map some →
   ∃ W1 d, W1 = { W with drawn := d } ∧ ((Instr.next (.pointer (some ⟨bi, 0, none⟩)) false ty).run P W = .ok (.tuple #[.bool false]) W1 ∧ left = #[] ∨
    ∃ e, e ∈ left ∧ (Instr.next (.pointer (some ⟨bi, 0, none⟩)) false ty).run P W = .ok (.tuple #[.bool true, e.key, e.val]) { W1 with heap := W1.heap.setIfInBounds bi (.mapIter (some b) clock (sb.push e.born) clock) }) := by
  intro cands hc; have hset : ∀ d (e : MapEntry), (setObj bi (.mapIter (some b) clock (sb.push e.born) clock)).run P { W with drawn := d } = .ok () { W with drawn := d, heap := W.heap.setIfInBounds bi (.mapIter (some b) clock (sb.push e.born) clock) } := fun d e => by
   simp [setObj, Sem.run, hbi]
  have hgm : (getObj b).run P W = .ok (.map es clock) W := run_gmap hb; have hrun : ∃ k d, k < cands.size ∧ (choose (.mapNext cands.size)).run P W = .ok k { W with drawn := d } := by
   have hpos : 0 < cands.size := by
    rw [hc]
    cases hle : left.isEmpty with
    | true => simp; omega
    | false =>
     rcases Nat.eq_zero_or_pos left.size with e | e
     ·rw [Array.isEmpty_iff_size_eq_zero.2 e] at hle; cases hle
     ·simp; exact e
   simp only [choose, Sem.run]; by_cases hf : (Question.mapNext cands.size).forced = true
   ·rw [if_pos hf]; exact ⟨0, W.drawn, hpos, rfl⟩
   ·rw [if_neg hf]; exact ⟨_, _, Nat.mod_lt _ hpos, rfl⟩
  obtain ⟨k, d, hk, hch⟩ := hrun; refine ⟨_, d, rfl, ?_⟩; unfold Instr.next; simp only [Sem.run_bind, hgi, Result.andThen_ok, hgm, hnot, Bool.false_eq_true, if_false, Sem.run_pure]; rw [show es.filter (fun e => !sb.contains e.born) = left from rfl, hold, hnew, ← hc, hch]; simp only [Result.andThen_ok]
  cases hle : left.isEmpty with
  | true =>
   have hl0 : left = #[] := by simpa using hle
   have hcs : cands = #[none] := by rw [hc, hl0]; simp
   subst hcs; have hk0 : k = 0 := by simp at hk; exact hk
   subst hk0; left; refine ⟨?_, hl0⟩; simp
  | false =>
   right; have hcs : cands = left.map some := by rw [hc, hle]; simp
   have hk' : k < left.size := by rw [hcs] at hk; simpa using hk
   have hck : cands[k]? = some (some left[k]) := by rw [hcs]; simp [hk']
   refine ⟨left[k], Array.getElem_mem _, ?_⟩; simp only [hck, Sem.run_bind, hset, Result.andThen_ok, Sem.run_pure]
 obtain ⟨W1, d, rfl, hcase⟩ := hstep _ rfl; rcases hcase with ⟨hr, hl0⟩ | ⟨e, he, hr⟩
 ·refine ⟨_, _, G, Γ, hr, .inl ⟨rfl, ?_, rfl, rfl⟩, hI.drawn d⟩; intro p hp; obtain ⟨q, hq, hqp⟩ := List.mem_iff_getElem.1 hp; have hqe : q < es.toList.length := by have := h1.len; omega
  have := hrel q es.toList[q] p (by simp) (by simp [← hqp]); refine this.1 ?_; have hnm : es.toList[q] ∉ left := by rw [hl0]; simp
  simp only [left, Array.mem_filter, not_and] at hnm; have := hnm (by simp); simpa using this
 ·have hem := Array.mem_filter.1 he; have hel : e ∈ es.toList := by simpa using hem.1
  obtain ⟨q, hq, hqe⟩ := List.mem_iff_getElem.1 hel; have hqx : q < xs.length := by have := h1.len; omega
  have hat := h1.at q; rw [List.getElem?_eq_getElem hq, List.getElem?_eq_getElem hqx, hqe] at hat; simp only [mpv_some, Option.map_some, Option.some.injEq, Prod.mk.injEq] at hat; have hns : ¬ e.born ∈ sb.toList := by simpa using hem.2
  have hrq := hrel q e xs[q] (by rw [List.getElem?_eq_getElem hq, hqe]) (by rw [List.getElem?_eq_getElem hqx]); refine ⟨_, _, G, _, hr, .inr ⟨xs[q].1, xs[q].2, [(bi, .mapIter (some b) clock (sb.push e.born) clock)], by rw [hat.1, hat.2], List.getElem_mem _, fun hc => hns (hrq.2 hc), ⟨b, es, clock, _, rfl, rfl, ?_⟩, ⟨b, es, clock, bi, _, e, rfl, rfl, by simp, ?_, hat.1, hat.2⟩, rfl, rfl⟩, ?_⟩
  ·intro q' e' p' h5 h6; obtain ⟨hq'1, hq'2⟩ := List.getElem?_eq_some_iff.1 h5; obtain ⟨hq'3, hq'4⟩ := List.getElem?_eq_some_iff.1 h6; simp only [Array.toList_push, List.mem_append, List.mem_singleton, List.mem_cons]; have hrel' := hrel q' e' p' h5 h6; have hii : e'.born = e.born ↔ p'.1 = xs[q].1 := by
    constructor
    ·intro hb'; have : q' = q := by
      exact nodup_at h2 (by simpa using hq'1) (by simpa using hq) (by simp only [List.getElem_map]; rw [hq'2, hqe]; exact hb')
     subst this; rw [← hq'4]
    ·intro hk'; have : q' = q := by
      exact nodup_at h4 (by simpa using hq'3) (by simpa using hqx) (by simp only [List.getElem_map]; rw [hq'4]; exact hk')
     subst this; rw [← hq'2, ← hqe]
   rw [hii, hrel']; simp only [List.not_mem_nil, or_false]; exact Or.comm
  ·have hfe : ∀ (l : List MapEntry), (l.map (·.born)).Nodup → ∀ e ∈ l, l.find? (fun z => z.born == e.born) = some e := by
    intro l
    induction l with
    | nil => intro _ e he; cases he
    | cons z l ih =>
     intro hn e he; simp only [List.map_cons, List.nodup_cons] at hn; rw [List.find?_cons]; rcases List.mem_cons.1 he with rfl | he
     ·simp
     ·have : (z.born == e.born) = false := by
       rw [Bool.eq_false_iff]; intro h; exact hn.1 (eq_of_beq h ▸ List.mem_map.2 ⟨e, he, rfl⟩)
      rw [this]; exact ih hn.2 e he
   have := hfe es.toList h2 e hel; rw [← Array.find?_toList]; exact this
  ·have hI1 := hI.drawn d; have hlt : bi < W.heap.size := (Array.getElem?_eq_some_iff.1 hbi).1; refine hI1.writeAt hj rfl rfl rfl ?_ fun k hk => ?_
   ·simp [Array.getElem?_setIfInBounds_self, hlt]
   ·rw [Array.getElem?_setIfInBounds_ne (by omega)]
def MpE (m : Mk κ ν) (_G : GMap) (A : Option Addr) (c : Nat) (xs : List (κ × ν)) (C : Chunk) (a : κ) (z : ν) (st : Nat) : Prop :=
 MpO m (fun _ => none) A c (mput xs a ((mget xs a).getD z)) C ∧ ∃ b es clock q e, C = [(b, .map es clock)] ∧ mpos a (mput xs a ((mget xs a).getD z)) = some q ∧ es[q]? = some e ∧ e.born = st
theorem mget_mput (xs : List (κ × ν)) (a : κ) (v : ν) : mget (mput xs a v) a = some v := by
 induction xs with
 | nil => simp [mput, mget]
 | cons p xs ih =>
  simp only [mput]; by_cases e : a = p.1
  ·rw [if_pos e]; simp [mget]
  ·rw [if_neg e]; simp only [mget, if_neg e]; exact ih
theorem MpE.lookup {t : TypeId} (ht : mapTy P t = some (kt, et)) (hk : KeyOK P kt m.key) {A : Option Addr} {c : Nat} {xs : List (κ × ν)} {C : Chunk} {a : κ} {z : ν} {st : Nat} (h : MpE m G A c xs C a z st) {i : Nat} (hi : Γ[i]? = some C) {x y : Operand}
  (hx : evalE L x = some (mpv A)) (hy : evalE L y = some (m.key a)) (hz : (P.info? et).bind (·.zero) = some (m.val z)) :
  Tells P B G Γ (exec1 (rho L) (.lookup t x y false) ty) (m.val ((mget xs a).getD z)) := by
 have := Tells.lookup (B := B) (G := G) (ty := ty) ht hk (MpO.mono (G' := G) h.1 (fun _ _ h => by cases h)) hi hx hy hz; rw [mget_mput] at this; exact this
end mem
theorem WO.opK {n : Nat} {L : Env} {Q : Exit → Act → World → Prop} {ops : Array Oper} {Γ0 Γ : List Chunk} {G0 : GMap} {kw kw' m i b b' : Nat} {op : Op} {ty : TypeId} {d : Option Nat} {g : Option (Nat × Bool)} {Φ : Value → GMap → List Chunk → Prop}
  (hik : i = kw) (hb : (b ||| 1 <<< i == b') = true) (ho : opAt ops i = some (op, ty, d, g)) (hg : wantedE ops L g = some true) (hk : (known L op && notSelect op && fits n d) = true)
  (hs : Does P B G Γ (exec1 (rho L) op ty) Φ)
  (next : ∀ v G' Γ', Φ v G' Γ' → ∃ G1 Γ1, Under B G1 Γ1 G' Γ' ∧ WA P ops Q kw' m (arr ops.size b') n (putE L d v) B G1 Γ1 G' Γ') : WO P ops Q kw m (arr ops.size b) i n L B G0 Γ0 G Γ := by
 subst hik; intro a W hF hI; obtain ⟨o, hoi, rfl, rfl, rfl, rfl⟩ := opAt_some ho; simp only [Bool.and_eq_true] at hk; obtain rfl : b ||| 1 <<< i = b' := by simpa using hb
 have hlt : i < ops.size := (Array.getElem?_eq_some_iff.1 hoi).1; unfold Go.wpOp; simp only [hoi]; rw [if_pos (hF.wanted hg)]; refine .inl ?_; unfold Oper.wp; rw [hF.exec hk.1.1 hk.1.2, execOp_exec1, arr_set]; have hset : (arr ops.size (b ||| 1 <<< i)).getD i true = true := by
  rw [arr_getD, if_pos hlt, Nat.testBit_or, Nat.one_shiftLeft, Nat.testBit_two_pow]; simp
 have go : ∀ v G' Γ' W', Φ v G' Γ' → Inv B G' Γ' W' → Until i (fun w => Inv B G0 Γ0 w) (arr ops.size (b ||| 1 <<< i)) W' ∧ wpAnyR P (Until i fun w => Inv B G0 Γ0 w) ops Q m (arr ops.size (b ||| 1 <<< i)) (a.put o.dst v) W' := fun v G' Γ' W' hφ hI' => by
  obtain ⟨G1, Γ1, h2, h3⟩ := next v G' Γ' hφ; refine ⟨fun h => ?_, wpAnyR_weaken _ _ _ _ (fun d w hd hsz _ h => ?_) (h3 _ W' (hF.put hk.2 v) hI')⟩
  ·have := h (by simpa [arr_size] using hlt); rw [hset] at this; cases this
  ·have := h (by rw [hsz]; simpa [arr_size] using hlt); rw [hd i hset] at this; cases this
 rcases hs W hI with ⟨r, v, W', G', Γ', hrun, hv, hφ, hI'⟩ | ⟨f, args, W1, hrun, hc⟩
 ·rw [hrun]
  cases r <;> simp [nextVal] at hv
  ·subst hv; exact go _ G' Γ' W' hφ hI'
  ·subst hv; exact go _ G' Γ' W' hφ hI'
 ·rw [hrun]; simp only [Oper.upon]; refine hc.mono ?_; rintro e W' ⟨v, G', Γ', rfl, hφ, hI'⟩; exact go v G' Γ' W' hφ hI'
end Go.Gg
