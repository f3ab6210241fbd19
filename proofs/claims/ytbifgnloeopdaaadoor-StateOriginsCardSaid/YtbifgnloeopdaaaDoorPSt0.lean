/- States in plain words: the keys between two vectors, and what stands under them. -/
import Derived.Test.YtbifgnloeopdaaaDoorPVec
import Derived.Test.YtbifgnloeopdaaaDoorGgY
namespace Go.Proofs.YtbifgnloeopdaaaDoor.Pure
open Go Go.Gg Go.Gp Gf
set_option linter.unusedVariables false
set_option linter.unusedSimpArgs false
theorem pw_ext {α : Type} {R : α → α → Prop} (irr : ∀ a, ¬ R a a) (asy : ∀ a b, R a b → R b a → False) : ∀ {l l' : List α}, l.Pairwise R → l'.Pairwise R → (∀ x, x ∈ l ↔ x ∈ l') → l = l'
 | [], [], _, _, _ => rfl
 | [], b :: l', _, _, h => absurd ((h b).2 List.mem_cons_self) (by simp)
 | a :: l, [], _, _, h => absurd ((h a).1 List.mem_cons_self) (by simp)
 | a :: l, b :: l', h1, h2, h => by
  obtain ⟨p1, q1⟩ := List.pairwise_cons.1 h1; obtain ⟨p2, q2⟩ := List.pairwise_cons.1 h2; have e : a = b := by
   rcases List.mem_cons.1 ((h a).1 List.mem_cons_self) with e | ha
   ·exact e
   ·rcases List.mem_cons.1 ((h b).2 List.mem_cons_self) with e | hb
    ·exact e.symm
    ·exact (asy _ _ (p2 a ha) (p1 b hb)).elim
  subst e; refine congrArg (a :: ·) (pw_ext irr asy q1 q2 fun x => ⟨fun hx => ?_, fun hx => ?_⟩)
  ·rcases List.mem_cons.1 ((h x).1 (List.mem_cons_of_mem _ hx)) with e | hx'
   ·subst e; exact (irr _ (p1 _ hx)).elim
   ·exact hx'
  ·rcases List.mem_cons.1 ((h x).2 (List.mem_cons_of_mem _ hx)) with e | hx'
   ·subst e; exact (irr _ (p2 _ hx)).elim
   ·exact hx'
def at0 (v : List Int) (o : Int) : Int := v.getD o.toNat 0
def Inr (n : Nat) (v w : List Int) (k : T29) : Prop := (0 ≤ k.f0 ∧ k.f0 < n) ∧ at0 w k.f0 < k.f1 ∧ k.f1 ≤ at0 v k.f0
instance (n : Nat) (v w : List Int) (k : T29) : Decidable (Inr n v w k) := by unfold Inr; infer_instance
def klt (a b : T29) : Prop := a.f0 < b.f0 ∨ a.f0 = b.f0 ∧ a.f1 < b.f1
theorem klt_irr (a : T29) : ¬ klt a a := by unfold klt; omega
theorem klt_asy (a b : T29) (h : klt a b) (h' : klt b a) : False := by unfold klt at h h'; omega
def kRow (w v : List Int) (o : Nat) : List T29 := (List.range (v.getD o 0 - w.getD o 0).toNat).map fun (i : Nat) => (⟨(o : Int), w.getD o 0 + 1 + (i : Int)⟩ : T29)
def kAll (n : Nat) (v w : List Int) : List T29 := (List.range n).flatMap fun o => kRow w v o
theorem kRow_mem {w v : List Int} {o : Nat} {k : T29} : k ∈ kRow w v o ↔ k.f0 = o ∧ w.getD o 0 < k.f1 ∧ k.f1 ≤ v.getD o 0 := by
 simp only [kRow, List.mem_map, List.mem_range]; constructor
 ·rintro ⟨i, hi, rfl⟩; exact ⟨rfl, by simp only; omega, by simp only; omega⟩
 ·rintro ⟨h0, h1, h2⟩; refine ⟨(k.f1 - w.getD o 0 - 1).toNat, by omega, ?_⟩
  cases k with
  | mk a b =>
   simp only at h0 h1 h2 ⊢; subst h0
   congr 1; omega
theorem kAll_mem {n : Nat} {v w : List Int} {k : T29} : k ∈ kAll n v w ↔ Inr n v w k := by
 simp only [kAll, List.mem_flatMap, List.mem_range]; constructor
 ·rintro ⟨o, ho, h⟩; obtain ⟨h0, h1, h2⟩ := kRow_mem.1 h; refine ⟨⟨by omega, by omega⟩, ?_, ?_⟩
  ·unfold at0; rw [h0]; simpa using h1
  ·unfold at0; rw [h0]; simpa using h2
 ·rintro ⟨⟨h0, h1⟩, h2, h3⟩; unfold at0 at h2 h3; exact ⟨k.f0.toNat, by omega, kRow_mem.2 ⟨by omega, h2, h3⟩⟩
theorem kRow_pw (w v : List Int) (o : Nat) : (kRow w v o).Pairwise klt := by
 unfold kRow; rw [List.pairwise_map]; refine List.pairwise_lt_range.imp ?_; intro a b h; exact .inr ⟨rfl, by simp only; omega⟩
theorem kAll_pw (n : Nat) (v w : List Int) : (kAll n v w).Pairwise klt := by
 unfold kAll; rw [List.pairwise_flatMap]; refine ⟨fun o _ => kRow_pw w v o, List.pairwise_lt_range.imp ?_⟩; intro a b h x hx y hy; have h1 := (kRow_mem.1 hx).1; have h2 := (kRow_mem.1 hy).1; exact .inl (by omega)
theorem pw_nodup {l : List T29} (h : l.Pairwise klt) : l.Nodup := h.imp fun h e => by subst e; exact klt_irr _ h
theorem kAll_nodup (n : Nat) (v w : List Int) : (kAll n v w).Nodup := pw_nodup (kAll_pw n v w)
theorem kAll_ext {n : Nat} {v w : List Int} {l : List T29} (h : l.Pairwise klt) (hm : ∀ k, k ∈ l ↔ Inr n v w k) : l = kAll n v w :=
 pw_ext klt_irr klt_asy h (kAll_pw n v w) fun k => (hm k).trans kAll_mem.symm
structure Good (n : Nat) (s : T46) : Prop where
 v : Vec n s.f0
 w : Vec n s.f1
 le : Le n s.f1 s.f0
 mem : ∀ k r, s.f2 k = some r → Inr n s.f0 s.f1 k ∧ r.f0 = k.f0 ∧ r.f1 = k.f1
 all : ∀ k, Inr n s.f0 s.f1 k → ∃ r, s.f2 k = some r
def recs (n : Nat) (s : T46) (from_ : List Int) : List T33 := (kAll n s.f0 from_).map fun k => (s.f2 k).getD z33
def fcut (w : List Int) (f : T29 → Option T33) : T29 → Option T33 := fun k => if k.f1 ≤ at0 w k.f0 then none else f k
def raiseS (s : T46) (x : List Int) : T46 := ⟨zip mx s.f0 (zip mx s.f1 x), zip mx s.f1 x, fcut (zip mx s.f1 x) s.f2⟩
def acceptS (s : T46) (r : T33) : T46 := ⟨s.f0.set r.f0.toNat r.f1, s.f1, fput s.f2 ⟨r.f0, r.f1⟩ r⟩
theorem mx_le (a b : Int) : a ≤ mx a b ∧ b ≤ mx a b := by unfold mx; split <;> omega
theorem mx_cases (a b : Int) : mx a b = a ∨ mx a b = b := by unfold mx; split <;> simp
theorem at0_zip {n : Nat} {f : Int → Int → Int} {a b : List Int} (ha : a.length = n) (hb : b.length = n) {o : Int} (h : 0 ≤ o ∧ o < n) : at0 (zip f a b) o = f (at0 a o) (at0 b o) := by
 unfold at0; exact getD_zip ha hb (by omega)
theorem at0_set {v : List Int} {n : Nat} (hv : v.length = n) {i o q : Int} (hi : 0 ≤ i ∧ i < n) (ho : 0 ≤ o) : at0 (v.set i.toNat q) o = if o = i then q else at0 v o := by
 unfold at0; simp only [List.getD_eq_getElem?_getD, List.getElem?_set]; by_cases e : o = i
 ·subst e; simp only [if_true, if_pos (show o.toNat < v.length by omega), Option.getD_some]
 ·have : ¬ i.toNat = o.toNat := by omega
  rw [if_neg this, if_neg e]
theorem Le.at0 {n : Nat} {a b : List Int} (h : Le n a b) {o : Int} (ho : 0 ≤ o ∧ o < n) : at0 a o ≤ at0 b o := h o.toNat (by omega)
theorem Good.raise {n : Nat} {s : T46} (h : Good n s) {x : List Int} (hx : Vec n x) : Good n (raiseS s x) where
 v := Vec.join h.v (Vec.join h.w hx)
 w := Vec.join h.w hx
 le := fun i hi => by
  show (zip mx s.f1 x).getD i 0 ≤ (zip mx s.f0 (zip mx s.f1 x)).getD i 0; rw [getD_zip h.v.1 (Vec.join h.w hx).1 hi]; exact (mx_le _ _).2
 mem := fun k r hk => by
  simp only [raiseS, fcut] at hk
  split at hk
  ·cases hk
  ·rename_i hc
   obtain ⟨⟨⟨h0, h1⟩, h2, h3⟩, h4⟩ := h.mem k r hk; refine ⟨⟨⟨h0, h1⟩, by simp only [raiseS]; omega, ?_⟩, h4⟩; show k.f1 ≤ Pure.at0 (zip mx s.f0 (zip mx s.f1 x)) k.f0; rw [at0_zip h.v.1 (Vec.join h.w hx).1 ⟨h0, h1⟩]; have := (mx_le (Pure.at0 s.f0 k.f0) (Pure.at0 (zip mx s.f1 x) k.f0)).1; omega
 all := fun k hk => by
  obtain ⟨⟨h0, h1⟩, h2, h3⟩ := hk; have h2 : Pure.at0 (zip mx s.f1 x) k.f0 < k.f1 := h2; have h3 : k.f1 ≤ Pure.at0 (zip mx s.f0 (zip mx s.f1 x)) k.f0 := h3; rw [at0_zip h.v.1 (Vec.join h.w hx).1 ⟨h0, h1⟩] at h3; have hc : ¬ k.f1 ≤ Pure.at0 (zip mx s.f1 x) k.f0 := by omega
  simp only [raiseS, fcut, if_neg hc]; refine h.all k ⟨⟨h0, h1⟩, ?_, ?_⟩
  ·rw [at0_zip h.w.1 hx.1 ⟨h0, h1⟩] at h2; have := (mx_le (Pure.at0 s.f1 k.f0) (Pure.at0 x k.f0)).1; omega
  ·rcases mx_cases (Pure.at0 s.f0 k.f0) (Pure.at0 (zip mx s.f1 x) k.f0) with e | e <;> rw [e] at h3 <;> omega
theorem Good.accept {n : Nat} {s : T46} (h : Good n s) {r : T33} (ho : 0 ≤ r.f0 ∧ r.f0 < n) (hq : r.f1 = at0 s.f0 r.f0 + 1) (hm : r.f1 ≤ 1023) : Good n (acceptS s r) := by
 have hset : ∀ o, 0 ≤ o → Pure.at0 (acceptS s r).f0 o = if o = r.f0 then r.f1 else Pure.at0 s.f0 o := fun o h0 => at0_set h.v.1 ho h0
 have hb := fun i => h.v.2 i
 refine ⟨Vec.of (by simp only [acceptS, List.length_set]; exact h.v.1) fun i hi => ?_, h.w, fun i hi => ?_, fun k r' hk => ?_, fun k hk => ?_⟩
 ·have := hset i (by omega); unfold Pure.at0 at this; rw [Int.toNat_natCast] at this; rw [this]; have h1 := hb r.f0.toNat; have h2 := hb i; unfold Pure.at0 at hq
  split <;> omega
 ·have := hset i (by omega); unfold Pure.at0 at this; rw [Int.toNat_natCast] at this; rw [this]; have h1 := h.le i hi; have h2 : (acceptS s r).f1 = s.f1 := rfl; rw [h2]; unfold Pure.at0 at hq
  split
  ·rename_i e; rw [← e, Int.toNat_natCast] at hq; omega
  ·exact h1
 ·simp only [acceptS, fput] at hk
  split at hk
  ·rename_i e
   cases hk
   subst e; refine ⟨⟨ho, ?_, ?_⟩, rfl, rfl⟩
   ·have := h.le.at0 ho; show Pure.at0 s.f1 r.f0 < r.f1; omega
   ·show r.f1 ≤ Pure.at0 (acceptS s r).f0 r.f0; rw [hset _ ho.1, if_pos rfl]; omega
  ·obtain ⟨⟨h0, h2, h3⟩, h4⟩ := h.mem k r' hk; refine ⟨⟨h0, h2, ?_⟩, h4⟩; show k.f1 ≤ Pure.at0 (acceptS s r).f0 k.f0; rw [hset _ h0.1]
   split
   ·rename_i e; rw [e] at h3; omega
   ·exact h3
 ·obtain ⟨h0, h2, h3⟩ := hk; have h3 : k.f1 ≤ Pure.at0 (acceptS s r).f0 k.f0 := h3; rw [hset _ h0.1] at h3; simp only [acceptS, fput]; by_cases e : k = ⟨r.f0, r.f1⟩
  ·rw [if_pos e]; exact ⟨_, rfl⟩
  ·rw [if_neg e]; refine h.all k ⟨h0, h2, ?_⟩
   split at h3
   ·rename_i e'
    have : k.f1 ≠ r.f1 := fun e2 => e (by cases k; simp only at e' e2; rw [e', e2])
    rw [e'] at *; omega
   ·exact h3
theorem Good.none {n : Nat} {s : T46} (h : Good n s) {k : T29} (hk : ¬ Inr n s.f0 s.f1 k) : s.f2 k = none := by
 cases e : s.f2 k with
 | none => rfl
 | some r => exact absurd (h.mem k r e).1 hk
theorem Good.ents {n : Nat} {s : T46} (h : Good n s) : mget ((kAll n s.f0 s.f1).map fun k => (k, (s.f2 k).getD z33)) = s.f2 := by
 funext k; have hn : (((kAll n s.f0 s.f1).map fun k => (k, (s.f2 k).getD z33)).map (·.1)) = kAll n s.f0 s.f1 := by rw [List.map_map]; simp [Function.comp_def]
 by_cases hk : Inr n s.f0 s.f1 k
 ·obtain ⟨r, hr⟩ := h.all k hk; rw [hr]; refine mget_of_mem (by rw [hn]; exact kAll_nodup _ _ _) (List.mem_map.2 ⟨k, kAll_mem.2 hk, by rw [hr]; rfl⟩)
 ·rw [h.none hk, mget_none, hn]; exact fun hc => hk (kAll_mem.1 hc)
theorem Good.mlen {n : Nat} {s : T46} (h : Good n s) : mlen s.f2 = (kAll n s.f0 s.f1).length := by
 rw [mlen_eq (xs := (kAll n s.f0 s.f1).map fun k => (k, (s.f2 k).getD z33)) ?_ h.ents, List.length_map]; rw [List.map_map]; simpa [Function.comp_def] using kAll_nodup n s.f0 s.f1
theorem Good.supp {n : Nat} {s : T46} (h : Good n s) : ∀ a v, s.f2 a = some v → a ∈ kAll n s.f0 s.f1 := fun a v e => kAll_mem.2 (h.mem a v e).1
theorem kAll_raise {n : Nat} {v w x : List Int} (hv : Vec n v) (hw : Vec n w) (hx : Vec n x) : kAll n (zip mx v (zip mx w x)) (zip mx w x) = (kAll n v w).filter fun k => decide (at0 (zip mx w x) k.f0 < k.f1) := by
 symm
 refine kAll_ext ((kAll_pw n v w).sublist List.filter_sublist) fun k => ?_
 rw [List.mem_filter, kAll_mem, decide_eq_true_eq]; constructor
 ·rintro ⟨⟨h0, h2, h3⟩, h4⟩; refine ⟨h0, h4, ?_⟩; rw [at0_zip hv.1 (Vec.join hw hx).1 h0]; have := (mx_le (at0 v k.f0) (at0 (zip mx w x) k.f0)).1; omega
 ·rintro ⟨h0, h2, h3⟩; refine ⟨⟨h0, ?_, ?_⟩, h2⟩
  ·rw [at0_zip hw.1 hx.1 h0] at h2; have := (mx_le (at0 w k.f0) (at0 x k.f0)).1; omega
  ·rw [at0_zip hv.1 (Vec.join hw hx).1 h0] at h3; rcases mx_cases (at0 v k.f0) (at0 (zip mx w x) k.f0) with e | e <;> rw [e] at h3 <;> omega
end Go.Proofs.YtbifgnloeopdaaaDoor.Pure
