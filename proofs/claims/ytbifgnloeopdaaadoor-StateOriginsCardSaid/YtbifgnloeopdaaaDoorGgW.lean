/- Maps of one's own, known as functions from keys: no order of entries in sight. -/
import Derived.Test.YtbifgnloeopdaaaDoorGgR
import Derived.Laws.Externs
namespace Go.Gg
open Go
set_option linter.unusedSimpArgs false
set_option linter.unusedSectionVars false
set_option linter.unusedVariables false
variable {P : Program} {B : World} {G G' : GMap} {Γ : List Chunk} {W : World} {L : Env} {ty : TypeId}
section plainF
variable {κ ν : Type} [DecidableEq κ]
def fput (f : κ → Option ν) (a : κ) (v : ν) : κ → Option ν := fun p => if p = a then some v else f p
def fdel (f : κ → Option ν) (a : κ) : κ → Option ν := fun p => if p = a then none else f p
def fnil : κ → Option ν := fun _ => none
theorem mget_fput (xs : List (κ × ν)) (a : κ) (v : ν) : mget (mput xs a v) = fput (mget xs) a v := by
 funext p; by_cases e : p = a
 ·subst e; rw [mget_mput]; simp [fput]
 ·rw [mget_mput_ne xs v e]; simp [fput, e]
theorem mget_mem {xs : List (κ × ν)} {a : κ} {v : ν} (h : mget xs a = some v) : (a, v) ∈ xs := by
 induction xs with
 | nil => cases h
 | cons p xs ih =>
  simp only [mget] at h; by_cases e : a = p.1
  ·rw [if_pos e] at h; cases h; subst e; exact List.mem_cons_self
  ·rw [if_neg e] at h; exact List.mem_cons_of_mem _ (ih h)
theorem mget_of_mem {xs : List (κ × ν)} (hn : (xs.map (·.1)).Nodup) {a : κ} {v : ν} (h : (a, v) ∈ xs) : mget xs a = some v := by
 induction xs with
 | nil => cases h
 | cons p xs ih =>
  simp only [List.map_cons, List.nodup_cons] at hn; rcases List.mem_cons.1 h with e | h
  ·subst e; simp [mget]
  ·have : ¬ a = p.1 := fun e => hn.1 (List.mem_map.2 ⟨(a, v), h, e⟩)
   simp only [mget, if_neg this]; exact ih hn.2 h
theorem mget_none {xs : List (κ × ν)} {a : κ} : mget xs a = none ↔ a ∉ xs.map (·.1) := by
 induction xs with
 | nil => simp [mget]
 | cons p xs ih =>
  by_cases e : a = p.1
  ·simp [mget, e]
  ·simp only [mget, if_neg e, ih, List.map_cons, List.mem_cons, not_or]; exact ⟨fun h => ⟨e, h⟩, fun h => h.2⟩
theorem mget_fdel {xs : List (κ × ν)} (hn : (xs.map (·.1)).Nodup) (a : κ) : mget (mdel xs a) = fdel (mget xs) a := by
 funext p; by_cases e : p = a
 ·subst e; simp only [fdel, if_true]
  induction xs with
  | nil => rfl
  | cons q xs ih =>
   simp only [List.map_cons, List.nodup_cons] at hn; by_cases e : p = q.1
   ·simp only [mdel, if_pos e]; rw [mget_none, e]; exact hn.1
   ·simp only [mdel, if_neg e, mget]; exact ih hn.2
 ·rw [mget_mdel_ne xs e]; simp [fdel, e]
theorem nodup_len {α : Type} [DecidableEq α] : ∀ {xs ys : List α}, xs.Nodup → (∀ x ∈ xs, x ∈ ys) → xs.length ≤ ys.length
 | [], _, _, _ => Nat.zero_le _
 | x :: xs, ys, hn, h => by
  have hx := h x List.mem_cons_self; simp only [List.nodup_cons] at hn; have := nodup_len (xs := xs) (ys := ys.erase x) hn.2 fun z hz => (List.mem_erase_of_ne (fun e => hn.1 (by rw [← e]; exact hz))).2 (h z (List.mem_cons_of_mem _ hz))
  rw [List.length_erase_of_mem hx] at this; have h1 : 0 < ys.length := List.length_pos_of_mem hx; simp only [List.length_cons]; omega
noncomputable def mlen (f : κ → Option ν) : Nat :=
 open Classical in if h : ∃ xs : List (κ × ν), (xs.map (·.1)).Nodup ∧ mget xs = f then (Classical.choose h).length else 0
theorem mlen_eq {f : κ → Option ν} {xs : List (κ × ν)} (hn : (xs.map (·.1)).Nodup) (h : mget xs = f) : mlen f = xs.length := by
 have hx : ∃ xs : List (κ × ν), (xs.map (·.1)).Nodup ∧ mget xs = f := ⟨xs, hn, h⟩; unfold mlen; rw [dif_pos hx]; obtain ⟨h1, h2⟩ := Classical.choose_spec hx; have key : ∀ ys zs : List (κ × ν), (ys.map (·.1)).Nodup → mget ys = f → mget zs = f → ys.length ≤ zs.length := by
  intro ys zs hy e1 e2; have := nodup_len (ys := zs.map (·.1)) hy fun x hx => Classical.byContradiction fun hc => by
   have h0 := mget_none.2 hc; rw [e2, ← e1] at h0; exact mget_none.1 h0 hx
  simpa using this
 exact Nat.le_antisymm (key _ _ h1 h2 h) (key _ _ hn h h2)
noncomputable def pickF {α : Type} (f : κ → Option ν) (seen : List κ) (over : Option α) (g : κ → ν → Option α) : Option α :=
 open Classical in
 if ∀ a v, f a = some v → a ∈ seen then over
 else if h : ∃ r, ∀ a v, f a = some v → a ∉ seen → g a v = some r then some (Classical.choose h) else none
theorem pickF_over {α : Type} {f : κ → Option ν} {seen : List κ} {over : Option α} {g : κ → ν → Option α} (h : ∀ a v, f a = some v → a ∈ seen) : pickF f seen over g = over := by
 unfold pickF; exact if_pos h
theorem pickF_pick {α : Type} {f : κ → Option ν} {seen : List κ} {over : Option α} {g : κ → ν → Option α} {r : α} (h : pickF f seen over g = some r) {a : κ} {v : ν} (hp : f a = some v) (hs : a ∉ seen) : g a v = some r := by
 unfold pickF at h; rw [if_neg (fun h => hs (h a v hp))] at h
 split at h
 ·rename_i hx
  have := Classical.choose_spec hx a v hp hs; rw [this]; exact h
 ·cases h
theorem pickF_all {α : Type} {f : κ → Option ν} {seen : List κ} {over : Option α} {g : κ → ν → Option α} {r : α} (h1 : (∀ a v, f a = some v → a ∈ seen) → over = some r)
  (h2 : ∀ a v, f a = some v → a ∉ seen → g a v = some r) : pickF f seen over g = some r := by
 unfold pickF
 split
 ·rename_i h; exact h1 h
 ·rename_i h
  have hx : ∃ r, ∀ a v, f a = some v → a ∉ seen → g a v = some r := ⟨r, h2⟩; rw [dif_pos hx]; have hs := Classical.choose_spec hx; have ⟨a, v, hp, hn⟩ : ∃ a v, f a = some v ∧ a ∉ seen := Classical.byContradiction fun hc => h fun a v hp => Classical.byContradiction fun hn => hc ⟨a, v, hp, hn⟩
  rw [← hs a v hp hn, h2 a v hp hn]
end plainF
section memF
theorem Does.mono {s : Sem Next} {Φ Ψ : Value → GMap → List Chunk → Prop} (h : Does P B G Γ s Φ) (hm : ∀ v G' Γ', Φ v G' Γ' → Ψ v G' Γ') : Does P B G Γ s Ψ := fun W hI =>
 (h W hI).imp (fun ⟨r, v, W', G', Γ', h1, h2, h3, h4⟩ => ⟨r, v, W', G', Γ', h1, h2, hm _ _ _ h3, h4⟩) fun ⟨f, args, W1, h1, h2⟩ => ⟨f, args, W1, h1, h2.mono fun _ _ ⟨v, G', Γ', h3, h4, h5⟩ => ⟨v, G', Γ', h3, hm _ _ _ h4, h5⟩⟩
variable {κ ν : Type} [DecidableEq κ] {m : Mk κ ν} {kt et : TypeId}
def MpF (m : Mk κ ν) (G : GMap) (A : Option Addr) (c : Nat) (f : κ → Option ν) (C : Chunk) : Prop := ∃ xs, MpO m G A c xs C ∧ mget xs = f
theorem MpF.mono {A : Option Addr} {c : Nat} {f : κ → Option ν} {C : Chunk} (h : MpF m G A c f C) (_ : G.le G') : MpF m G' A c f C := h
theorem MpF.flat {A : Option Addr} {c : Nat} {f : κ → Option ν} {C : Chunk} (h : MpF m G A c f C) (_ : Unit) {G'' : GMap} : MpF m G'' A c f C := h
theorem MpF.new (m : Mk κ ν) (G : GMap) (b : Nat) : MpF m G (some ⟨b, 0, none⟩) 0 fnil [(b, .map #[] 0)] := ⟨[], MpO.new m G b, rfl⟩
theorem MpF.c0 {A : Option Addr} {c : Nat} {f : κ → Option ν} {C : Chunk} (h : MpF m G A c f C) : c = 0 := by obtain ⟨xs, h, _⟩ := h; exact h.c0
theorem Tells.lookupF {t : TypeId} (ht : mapTy P t = some (kt, et)) (hk : KeyOK P kt m.key) {A : Option Addr} {c : Nat} {f : κ → Option ν} {C : Chunk} (h : MpF m G A c f C) {i : Nat} (hi : Γ[i]? = some C) {x y : Operand} {a : κ} {z : ν}
  (hx : evalE L x = some (mpv A)) (hy : evalE L y = some (m.key a)) (hz : (P.info? et).bind (·.zero) = some (m.val z)) :
  Tells P B G Γ (exec1 (rho L) (.lookup t x y false) ty) (m.val ((f a).getD z)) := by
 obtain ⟨xs, h, rfl⟩ := h; exact Tells.lookup ht hk h hi hx hy hz
theorem Tells.lookupOkF {t : TypeId} (ht : mapTy P t = some (kt, et)) (hk : KeyOK P kt m.key) {A : Option Addr} {c : Nat} {f : κ → Option ν} {C : Chunk} (h : MpF m G A c f C) {i : Nat} (hi : Γ[i]? = some C) {x y : Operand} {a : κ} {z : ν}
  (hx : evalE L x = some (mpv A)) (hy : evalE L y = some (m.key a)) (hz : (P.info? et).bind (·.zero) = some (m.val z)) :
  Tells P B G Γ (exec1 (rho L) (.lookup t x y true) ty) (.tuple #[m.val ((f a).getD z), .bool (f a).isSome]) := by
 obtain ⟨xs, h, rfl⟩ := h; exact Tells.lookupOk ht hk h hi hx hy hz
theorem Tells.mapLenF {t : TypeId} (ht : mapTy P t = some (kt, et)) {A : Option Addr} {c : Nat} {f : κ → Option ν} {C : Chunk} (h : MpF m G A c f C) {i : Nat} (hi : Γ[i]? = some C) {x : Operand}
  (hx : evalE L x = some (mpv A)) : Tells P B G Γ (exec1 (rho L) (.call { callee := .builtin .len, args := #[x], argTypes := #[t] }) ty) (.int .i64 (mlen f : Int)) := by
 obtain ⟨xs, h, e⟩ := h; rw [mlen_eq h.nodup e]; exact Tells.mapLen ht h hi hx
theorem Does.mapPutF {t : TypeId} (ht : mapTy P t = some (kt, et)) (hk : KeyOK P kt m.key) {A : Option Addr} {c : Nat} {f : κ → Option ν} {C : Chunk} (h : MpF m G A c f C) {i : Nat} (hi : Γ[i]? = some C) {x y u : Operand} {a : κ} {v : ν}
  (hx : evalE L x = some (mpv A)) (hy : evalE L y = some (m.key a)) (hu : evalE L u = some (m.val v)) :
  Does P B G Γ (exec1 (rho L) (.mapUpdate t x y u) ty) fun v' G' Γ' => v' = undef ∧ G = G' ∧ ∃ C', MpF m G A c (fput f a v) C' ∧ Γ' = Γ.set i C' := by
 obtain ⟨xs, h, rfl⟩ := h; refine (Does.mapPut ht hk h hi hx hy hu).mono fun _ _ _ hr => ?_
 obtain ⟨h1, h2, C', h3, h4⟩ := hr; exact ⟨h1, h2, C', ⟨_, h3, mget_fput _ _ _⟩, h4⟩
def ItF (m : Mk κ ν) (A : Option Addr) (f : κ → Option ν) (C : Chunk) (bi : Nat) (seen : List κ) (Ci : Chunk) : Prop :=
 ∃ xs, MpO m (fun _ => none) A 0 xs C ∧ mget xs = f ∧ It m xs C bi seen Ci
theorem Does.mapDelItF {t t2 : TypeId} (ht : mapTy P t = some (kt, et)) (hk : KeyOK P kt m.key) {A : Option Addr} {c : Nat} {f : κ → Option ν} {C Ci : Chunk} (h0 : MpF m G A c f C) {bi : Nat} {seen : List κ} (hit : ItF m A f C bi seen Ci) {i : Nat} (hi : Γ[i]? = some C) {x y : Operand} {a : κ}
  (hx : evalE L x = some (mpv A)) (hy : evalE L y = some (m.key a)) :
  Does P B G Γ (exec1 (rho L) (.call { callee := .builtin .delete, args := #[x, y], argTypes := #[t, t2] }) ty) fun v' G' Γ' => v' = .tuple #[] ∧ G = G' ∧ ∃ C', MpF m G A c (fdel f a) C' ∧ ItF m A (fdel f a) C' bi seen Ci ∧ Γ' = Γ.set i C' := by
 have hc := h0.c0; subst hc; obtain ⟨xs, h, rfl, hit⟩ := hit; refine (Does.mapDelIt (G := G) ht hk h hit hi hx hy).mono fun _ _ _ hr => ?_
 obtain ⟨h1, h2, C', h3, h4, h5⟩ := hr; exact ⟨h1, h2, C', ⟨_, h3, mget_fdel h.nodup _⟩, ⟨_, h3, mget_fdel h.nodup _, h4⟩, h5⟩
theorem Does.rangeF {t : TypeId} (ht : mapTy P t = some (kt, et)) {A : Option Addr} {c : Nat} {f : κ → Option ν} {C : Chunk} (h : MpF m G A c f C) {i : Nat} (hi : Γ[i]? = some C) {x : Operand}
  (hx : evalE L x = some (mpv A)) :
  Does P B G Γ (exec1 (rho L) (.range t x) ty) fun v G' Γ' => ∃ bi Ci, v = .pointer (some ⟨bi, 0, none⟩) ∧ ItF m A f C bi [] Ci ∧ G = G' ∧ Γ' = Ci :: Γ := by
 have hc := h.c0; subst hc; obtain ⟨xs, h, rfl⟩ := h; refine (Does.range ht h hi hx).mono fun _ _ _ hr => ?_
 obtain ⟨bi, Ci, h1, h2, h3, h4⟩ := hr; exact ⟨bi, Ci, h1, ⟨xs, h, rfl, h2⟩, h3, h4⟩
theorem Does.nextF {A : Option Addr} {c : Nat} {f : κ → Option ν} {C Ci : Chunk} (h0 : MpF m G A c f C) {bi : Nat} {seen : List κ} (hit : ItF m A f C bi seen Ci) {i j : Nat} (hi : Γ[i]? = some C) (hj : Γ[j]? = some Ci) {x : Operand}
  (hx : evalE L x = some (.pointer (some ⟨bi, 0, none⟩))) :
  Does P B G Γ (exec1 (rho L) (.next x false) ty) fun v G' Γ' => (v = .tuple #[.bool false] ∧ (∀ a v, f a = some v → a ∈ seen) ∧ G = G' ∧ Γ' = Γ) ∨
   ∃ a e Ci', v = .tuple #[.bool true, m.key a, m.val e] ∧ f a = some e ∧ a ∉ seen ∧ ItF m A f C bi (a :: seen) Ci' ∧ Cur m C Ci' a e ∧ G = G' ∧ Γ' = Γ.set j Ci' := by
 obtain ⟨xs, h, rfl, hit⟩ := hit; refine (Does.next (G := G) h hit hi hj hx).mono fun _ _ _ hr => ?_
 rcases hr with ⟨h1, h2, h3, h4⟩ | ⟨a, e, Ci', h1, h2, h3, h4, h5, h6, h7⟩
 ·exact .inl ⟨h1, fun a v hv => h2 _ (mget_mem hv), h3, h4⟩
 ·exact .inr ⟨a, e, Ci', h1, mget_of_mem h.nodup h2, h3, ⟨xs, h, rfl, h4⟩, h5, h6, h7⟩
theorem Tells.entryF {A : Option Addr} {f : κ → Option ν} {C Ci : Chunk} {bi : Nat} {seen : List κ} (hit : ItF m A f C bi seen Ci) {a : κ} {v : ν} (hc : Cur m C Ci a v) {i j : Nat} (hi : Γ[i]? = some C) (hj : Γ[j]? = some Ci) {x : Operand}
  (hx : evalE L x = some (.pointer (some ⟨bi, 0, none⟩))) : Tells P B G Γ (exec1 (rho L) (.entry x) ty) (.tuple #[m.key a, m.val v]) := by
 obtain ⟨xs, h, rfl, hit⟩ := hit; exact Tells.entry hit hc hi hj hx
theorem MpF.at {A : Option Addr} {c : Nat} {f : κ → Option ν} {C : Chunk} (h : MpF m G A c f C) : ∃ b, A = some ⟨b, 0, none⟩ := by
 obtain ⟨xs, ⟨_, b, _, _, h, _⟩, _⟩ := h; exact ⟨b, h⟩
theorem Does.mapClone {f : FuncId} {fn : Func} (hf : P.funcs[f]? = some fn) (hname : (fn.name == "runtime.NumGoroutine") = false) (hb : fn.body.isNone = true) (hn : Extern.findNext fn = none)
  (he : Extern.find fn = some Extern.MapsClone.clone) {b : Nat} {c : Nat} {t : TypeId} {g : κ → Option ν} {C : Chunk} {x : Operand} {ti : TypeId} (hx : evalE L x = some (.iface t (.map (some b))))
  (h : MpF m G (some ⟨b, 0, none⟩) c g C) {i : Nat} (hi : Γ[i]? = some C) :
  Does P B G Γ (exec1 (rho L) (.call { callee := .value (.func f), args := #[x], argTypes := #[ti] }) ty) fun v G' Γ' => ∃ b' C', v = .iface t (.map (some b')) ∧ MpF m G (some ⟨b', 0, none⟩) 0 g C' ∧ G = G' ∧ Γ' = C' :: Γ := by
 obtain ⟨xs, h, rfl⟩ := h; intro W hI; obtain ⟨b0, es, clock, e0, rfl, hbk, h1, h2, h3, h4⟩ := Inv.atMap h hi hI; obtain rfl : b = b0 := by simpa using e0
 have hc : (exec1 (rho L) (.call { callee := .value (.func f), args := #[x], argTypes := #[ti] }) ty).run P W = (callFunc f #[.iface t (.map (some b))]).run P W := by
  have h1 : rho L x = .iface t (.map (some b)) := rho_of hx; have h2 : rho L (.func f) = .func (.func f) #[] #[] := rfl; simp [exec1, execOp, resolve, invoke, h1, h2, Deferred.ofValue]
 have hr : (Extern.MapsClone.clone #[.iface t (.map (some b))]).run P W = .ok (.iface t (.map (some W.heap.size))) { W with heap := W.heap.push (.map es clock) } := by
  have e : Extern.MapsClone.clone #[.iface t (.map (some b))] = (getObj b >>= fun o => match o with
    | .map entries clock => (newObj (.map entries clock) >>= fun n => pure (.iface t (.map (some n))))
    | _ => stuck "maps.clone: a map expected") := rfl
  rw [e]; simp [run_gmap hbk, Result.andThen, go_sem, newObj, Sem.run]
 refine .inl ⟨.value (.iface t (.map (some W.heap.size))), _, _, G, _, ?_, rfl, ⟨W.heap.size, _, rfl, ⟨xs, ⟨rfl, W.heap.size, es, clock, rfl, rfl, h1, h2, h3, h4⟩, rfl⟩, rfl, rfl⟩, hI.alloc (.map es clock)⟩; rw [hc, run_callFunc_extern hf hname hb hn he, hr]; rfl
end memF
end Go.Gg
