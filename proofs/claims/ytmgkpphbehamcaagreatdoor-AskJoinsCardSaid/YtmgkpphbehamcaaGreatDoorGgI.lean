/- Values of which something is told, made slices, lending, and what an append may take from. Nothing of any one program is said here. -/
import Derived.Test.YtmgkpphbehamcaaGreatDoorGgH
namespace Go.Gg
variable {P : Program} {B : World} {G G' G0 : GMap} {Γ Γ' Γ0 : List Chunk} {L L' : Env} {ty : TypeId} {n : Nat} {Q : Exit → Act → World → Prop} {ops : Array Oper}
variable {α : Type} {kd : Kd α}
section
variable {i : Nat} {op : Op} {d : Option Nat} {g : Option (Nat × Bool)}
theorem WL.tellE {R : List Value → Prop} {V : List Value → Value} (ho : opAt ops i = some (op, ty, d, g)) (hg : wantedE ops L g = some true) (hk : (known L op && notSelect op && fits n d) = true)
  (hs : ∃ cs, R cs ∧ Tells P B G Γ (exec1 (rho L) op ty) (V cs)) (next : ∀ cs, R cs → WL P ops Q (i + 1) n (putE L d (V cs)) B G Γ) : WL P ops Q i n L B G Γ :=
 let ⟨cs, h1, h2⟩ := hs; WL.tell ho hg hk h2 (next cs h1)
variable {kw M m b b' N : Nat}
theorem WA.tellE {R : List Value → Prop} {V : List Value → Value} (hm : M = m + 1) (hnp : NoPanic Q) (hu : Under B G0 Γ0 G Γ) {S : List Sm} (hS : okSum ops N S = true) (ht : (takesS S N b i && aheadS S N kw b i && (b ||| 1 <<< i) == b') = true) (ho : opAt ops i = some (op, ty, d, g)) (hg : wantedE ops L g = some true) (hk : (known L op && notSelect op && fits n d) = true)
  (hs : ∃ cs, R cs ∧ Tells P B G0 Γ0 (exec1 (rho L) op ty) (V cs)) (next : ∀ cs, R cs → WA P ops Q kw m (arr ops.size b') n (putE L d (V cs)) B G0 Γ0 G Γ) : WA P ops Q kw M (arr ops.size b) n L B G0 Γ0 G Γ :=
 let ⟨cs, h1, h2⟩ := hs; WA.tell hm hnp hu hS ht ho hg hk h2 (next cs h1)
end
theorem Fr.reput {a : Act} {t : Nat} {v v' : Value} (h : Fr n L a) (ht : L.lookup t = some v) (e : v = v') : Fr n ((t, v') :: L) a :=
 ⟨h.defers, h.size, fun s u hs => by
  simp only [List.lookup_cons] at hs
  split at hs
  ·rename_i e'; have e' : s = t := by simpa using e'
   subst e'; cases hs; rw [← e]; exact h.holds _ _ ht
  ·exact h.holds s u hs⟩
theorem WL.reput {i : Nat} (t : Nat) {v v' : Value} (ht : L.lookup t = some v) (e : v = v') (h : WL P ops Q i n ((t, v') :: L) B G Γ) : WL P ops Q i n L B G Γ := fun a W hF hI => h a W (hF.reput ht e) hI
theorem WA.reput {kw m : Nat} {done : Array Bool} (t : Nat) {v v' : Value} (ht : L.lookup t = some v) (e : v = v') (h : WA P ops Q kw m done n ((t, v') :: L) B G0 Γ0 G Γ) : WA P ops Q kw m done n L B G0 Γ0 G Γ := fun a W hF hI => h a W (hF.reput ht e) hI
inductive LiesL (kd : Kd α) (G : GMap) : List α → List Value → Prop where
 | nil : LiesL kd G [] []
 | cons {x : α} {xs : List α} {cs ds : List Value} : kd.rel G x cs → LiesL kd G xs ds → LiesL kd G (x :: xs) (cs ++ ds)
theorem LiesL.length {xs : List α} {cs : List Value} (h : LiesL kd G xs cs) : cs.length = xs.length * kd.sz := by
 induction h with
 | nil => simp
 | cons h _ ih => rw [List.length_append, kd.len h, ih, List.length_cons, Nat.add_mul]; omega
theorem LiesL.lies {xs : List α} {cs : List Value} (h : LiesL kd G xs cs) : Lies kd G cs.toArray 0 xs := by
 induction h with
 | nil => exact Lies.nil kd G _ _
 | @cons x xs cs ds h hr ih =>
  intro i hi
  cases i with
  | zero =>
   refine ⟨cs, by simpa using h, fun j hj => ?_⟩; simp [List.getElem?_append_left hj]
  | succ i =>
   obtain ⟨es, he, hc⟩ := ih i (by simpa using hi); refine ⟨es, by simpa using he, fun j hj => ?_⟩; have := hc j hj; simp only [List.getElem?_toArray] at this ⊢; have hl := kd.len h; have e : (i + 1) * kd.sz = i * kd.sz + kd.sz := by rw [Nat.add_mul, Nat.one_mul]
   rw [List.getElem?_append_right (by omega)]; rw [show 0 + (i + 1) * kd.sz + j - cs.length = 0 + i * kd.sz + j by omega]; exact this
theorem Ow.lit {b T : Nat} {xs : List α} {cs : List Value} (h : LiesL kd G xs cs) : Ow kd G (some ⟨b, 0, none⟩) xs.length xs [(b, .cells cs.toArray T (0, 0))] :=
 ⟨Nat.le_refl _, .inr ⟨b, cs.toArray, T, (0, 0), rfl, rfl, by simpa using h.length, Free.zero _, h.lies⟩⟩
theorem Src.str (s : ByteArray) : Src P B G Γ (kInt .u8) (.string s) (bytesOf s) := by
 have hl : (bytesOf s).length = s.size := by unfold bytesOf; rw [List.length_map]; rfl
 refine ⟨fun W _ => by rw [hl]; simp [Builtin.lenOf, go_sem], fun m hm => ?_⟩; refine ⟨((bytesOf s).take m).map (Value.int .u8), by simp [kInt]; omega, fun i hi => ⟨_, rfl, fun j hj => ?_⟩, fun W _ => ?_⟩
 ·have hj0 : j = 0 := by simp at hj; omega
  subst hj0; have hi2 : i < m ∧ i < (bytesOf s).length := by simp only [List.length_take] at hi; omega
  simp [kInt, List.getElem?_take_of_lt hi2.1, hi2.2]
 ·have e : (s.extract 0 m).data.map (fun b => Value.int .u8 b.toNat) = (((bytesOf s).take m).map (Value.int .u8)).toArray := by
   apply Array.ext'; simp [bytesOf, ByteArray.data_extract, List.map_take]; rfl
  simp only [Builtin.firstCells]; rw [e]; rfl
end Go.Gg
