/- States in plain words: states whose records their keys tell; what two have together; what one lacks, accepted. -/
import Derived.Test.YtbifgnloeopdaaaDoorF0
import Derived.Test.YtbifgnloeopdaaaDoorF1
import Derived.Test.YtbifgnloeopdaaaDoorPSt4
namespace Go.Proofs.YtbifgnloeopdaaaDoor.Pure
open Go Go.Gg Go.Gp Gf
set_option linter.unusedVariables false
set_option linter.unusedSimpArgs false
def Told (n : Nat) (s : T46) : Prop := Good n s ∧ ∀ k r, s.f2 k = some r → r = rk k.f0 k.f1
theorem told_eq {n : Nat} {s t : T46} (hs : Told n s) (ht : Told n t) (e0 : s.f0 = t.f0) (e1 : s.f1 = t.f1) : s = t := by
 have e2 : s.f2 = t.f2 := by
  funext k; by_cases hk : Inr n s.f0 s.f1 k
  ·obtain ⟨r, hr⟩ := hs.1.all k hk; obtain ⟨r', hr'⟩ := ht.1.all k (by rw [← e0, ← e1]; exact hk); rw [hr, hr', hs.2 k r hr, ht.2 k r' hr']
  ·rw [hs.1.none hk, ht.1.none (by rw [← e0, ← e1]; exact hk)]
 cases s; cases t
 simp only at e0 e1 e2; subst e0; subst e1; subst e2; rfl
theorem Told.new (n : Nat) : Told n (newS n) := ⟨Good.new n, fun k r h => by cases h⟩
theorem Told.raise {n : Nat} {s : T46} (h : Told n s) {x : List Int} (hx : Vec n x) : Told n (raiseS s x) := ⟨h.1.raise hx, fun k r hk => by
 simp only [raiseS, fcut] at hk
 split at hk
 ·cases hk
 ·exact h.2 k r hk⟩
theorem Told.accept {n : Nat} {s : T46} (h : Told n s) {o q : Int} (ho : 0 ≤ o ∧ o < n) (hq : q = at0 s.f0 o + 1) (hm : q ≤ 1023) : Told n (acceptS s (rk o q)) := ⟨h.1.accept (r := rk o q) ho hq hm, fun k r hk => by
 simp only [acceptS, fput] at hk
 split at hk
 ·rename_i e; cases hk; subst e; rfl
 ·exact h.2 k r hk⟩
def cnt (n : Nat) (s : T46) : Nat := (kAll n s.f0 s.f1).length
theorem cnt_raise {n : Nat} {s : T46} (h : Good n s) {x : List Int} (hx : Vec n x) : cnt n (raiseS s x) ≤ cnt n s := by
 unfold cnt; show (kAll n (zip mx s.f0 (zip mx s.f1 x)) (zip mx s.f1 x)).length ≤ _; rw [kAll_raise h.v h.w hx]; exact List.length_filter_le _ _
theorem cnt_accept {n : Nat} {s : T46} (h : Good n s) {r : T33} (ho : 0 ≤ r.f0 ∧ r.f0 < n) (hq : r.f1 = at0 s.f0 r.f0 + 1) : cnt n (acceptS s r) ≤ cnt n s + 1 := by
 have := nodup_len (ys := (⟨r.f0, r.f1⟩ : T29) :: kAll n s.f0 s.f1) (kAll_nodup n (acceptS s r).f0 (acceptS s r).f1) fun k hk => by
  obtain ⟨h0, h2, h3⟩ := kAll_mem.1 hk; have h3 : k.f1 ≤ at0 (s.f0.set r.f0.toNat r.f1) k.f0 := h3; rw [at0_set h.v.1 ho h0.1] at h3; by_cases e : k = ⟨r.f0, r.f1⟩
  ·rw [e]; exact List.mem_cons_self
  ·refine List.mem_cons_of_mem _ (kAll_mem.2 ⟨h0, h2, ?_⟩)
   split at h3
   ·rename_i e'
    have : k.f1 ≠ r.f1 := fun e2 => e (by cases k; simp only at e' e2; rw [e', e2])
    rw [e'] at *; omega
   ·exact h3
 simpa [cnt] using this
theorem zip_le {n : Nat} {a b : List Int} (ha : a.length = n) (hb : b.length = n) (h : Le n b a) : zip mx a b = a := vec_ext (len_zip ha hb) ha fun i hi => by
 rw [getD_zip ha hb hi]; have := h i hi; unfold mx; split <;> omega
def forr (f g : T29 → Option T33) : T29 → Option T33 := fun k => if (f k).isSome then f k else g k
def joinS (s t : T46) : T46 := raiseS ⟨zip mx s.f0 t.f0, s.f1, forr s.f2 t.f2⟩ t.f1
theorem Raise_gen {n : Nat} {s : T46} (hv : Vec n s.f0) (hw : Vec n s.f1) (h1 : 1 ≤ n) (hn : n ≤ 8) {ks : List T29} (hf : ∀ a v, s.f2 a = some v → a ∈ ks ∧ 0 ≤ a.f0 ∧ a.f0 < n) {x : List Int} (hx : Vec n x) :
  ∃ c, Ev (fun k => state_State_Raise k s x) (c, raiseS s x) := by
 refine ⟨IntKind.i64.wrap ((mlen s.f2 : Int) - (mlen (raiseS s x).f2 : Int)), ?_⟩; unfold state_State_Raise; rw [hv.1]; refine Ev.bind (May_ev hx h1 hn) ?_; refine Ev.neg (by simp) ?_; refine Ev.bind (join2 hw hx hn) ?_; refine Ev.bind (join2 hv (Vec.join hw hx) hn) ?_; refine Ev.bind (Delete_ev (n := n) (t := ⟨zip mx s.f0 (zip mx s.f1 x), zip mx s.f1 x, s.f2⟩) (Vec.join hw hx).1 (ks := ks) hf) ?_; exact Ev.now _
theorem join_f1 (s t : T46) : (joinS s t).f1 = zip mx s.f1 t.f1 := rfl
theorem join_f0 {n : Nat} {s t : T46} (hs : Good n s) (ht : Good n t) : (joinS s t).f0 = zip mx s.f0 t.f0 := by
 show zip mx (zip mx s.f0 t.f0) (zip mx s.f1 t.f1) = _; refine zip_le (len_zip hs.v.1 ht.v.1) (len_zip hs.w.1 ht.w.1) fun i hi => ?_
 rw [getD_zip hs.w.1 ht.w.1 hi, getD_zip hs.v.1 ht.v.1 hi]; have h1 := hs.le i hi; have h2 := ht.le i hi; unfold mx; split <;> split <;> omega
theorem Told.join {n : Nat} {s t : T46} (hs : Told n s) (ht : Told n t) : Told n (joinS s t) := by
 have f0 := join_f0 hs.1 ht.1; have f1 := join_f1 s t; have hV : Vec n (zip mx s.f0 t.f0) := Vec.join hs.1.v ht.1.v; have hW : Vec n (zip mx s.f1 t.f1) := Vec.join hs.1.w ht.1.w; have fst : ∀ k r, (joinS s t).f2 k = some r → (¬ k.f1 ≤ at0 (zip mx s.f1 t.f1) k.f0) ∧ (s.f2 k = some r ∨ t.f2 k = some r) := fun k r hk => by
  simp only [joinS, raiseS, fcut, forr] at hk
  split at hk
  ·cases hk
  ·rename_i c
   split at hk
   ·exact ⟨c, .inl hk⟩
   ·exact ⟨c, .inr hk⟩
 refine ⟨⟨by rw [f0]; exact hV, by rw [f1]; exact hW, ?_, ?_, ?_⟩, ?_⟩
 ·rw [f0, f1]; intro i hi; rw [getD_zip hs.1.w.1 ht.1.w.1 hi, getD_zip hs.1.v.1 ht.1.v.1 hi]; have h1 := hs.1.le i hi; have h2 := ht.1.le i hi; unfold mx; split <;> split <;> omega
 ·intro k r hk; obtain ⟨c, h⟩ := fst k r hk; rw [f0, f1]; rcases h with h | h
  ·obtain ⟨⟨h0, h2, h3⟩, h4⟩ := hs.1.mem k r h; refine ⟨⟨h0, by omega, ?_⟩, h4⟩; rw [at0_zip hs.1.v.1 ht.1.v.1 h0]; have := (mx_le (at0 s.f0 k.f0) (at0 t.f0 k.f0)).1; omega
  ·obtain ⟨⟨h0, h2, h3⟩, h4⟩ := ht.1.mem k r h; refine ⟨⟨h0, by omega, ?_⟩, h4⟩; rw [at0_zip hs.1.v.1 ht.1.v.1 h0]; have := (mx_le (at0 s.f0 k.f0) (at0 t.f0 k.f0)).2; omega
 ·intro k hk; rw [f0, f1] at hk; obtain ⟨h0, h2, h3⟩ := hk; have c : ¬ k.f1 ≤ at0 (zip mx s.f1 t.f1) k.f0 := by omega
  simp only [joinS, raiseS, fcut, if_neg c, forr]; rw [at0_zip hs.1.w.1 ht.1.w.1 h0] at h2; rw [at0_zip hs.1.v.1 ht.1.v.1 h0] at h3; have m1 := mx_le (at0 s.f1 k.f0) (at0 t.f1 k.f0); by_cases e : k.f1 ≤ at0 s.f0 k.f0
  ·obtain ⟨r, hr⟩ := hs.1.all k ⟨h0, by omega, e⟩; exact ⟨r, by rw [hr]; rfl⟩
  ·have e2 : k.f1 ≤ at0 t.f0 k.f0 := by
    rcases mx_cases (at0 s.f0 k.f0) (at0 t.f0 k.f0) with h | h <;> rw [h] at h3 <;> omega
   obtain ⟨r, hr⟩ := ht.1.all k ⟨h0, by omega, e2⟩
   cases hs2 : s.f2 k with
   | none => exact ⟨r, by simp [hr]⟩
   | some r' => exact ⟨r', by simp⟩
 ·intro k r hk; obtain ⟨_, h⟩ := fst k r hk; rcases h with h | h
  ·exact hs.2 k r h
  ·exact ht.2 k r h
theorem copy_loop {n : Nat} {t : T46} (ht : Good n t) (s : T46) {F : Nat → List T29 → T46 → Option T46}
  (hF : ∀ k seen y, F (k + 1) seen y = pickF t.f2 seen (some y) (fun a => fun e => if (!((y.f2 a).isSome)) = true then F k (a :: seen) ⟨y.f0, y.f1, fput y.f2 a e⟩ else F k (a :: seen) y)) :
  Ev (fun k => F k [] s) ⟨s.f0, s.f1, forr s.f2 t.f2⟩ := by
 refine Ev.range (F := fun k (y : T46) seen => F k seen y) (kAll n t.f0 t.f1) (fun y seen => y.f0 = s.f0 ∧ y.f1 = s.f1 ∧ y.f2 = fun a => if a ∈ seen then forr s.f2 t.f2 a else s.f2 a) ?_ s [] ⟨rfl, rfl, by funext a; simp⟩; intro y seen ⟨y0, y1, y2⟩ ih; refine Ev.step (fun k => hF k seen y) ?_; refine Ev.pickF (ks := kAll n t.f0 t.f1) ht.supp (fun hs => (Ev.now _).is ?_) (fun a v hv hn => ?_)
 ·cases y
  simp only at y0 y1 y2; subst y0; subst y1; subst y2
  congr 1
  funext a; by_cases ha : a ∈ seen
  ·rw [if_pos ha]
  ·rw [if_neg ha]; unfold forr
   cases e : t.f2 a with
   | some v => exact absurd (hs a v e) ha
   | none => cases s.f2 a <;> simp
 ·have hy : y.f2 a = s.f2 a := by rw [y2]; simp [hn]
  refine Ev.ite (fun c => ih _ a (ht.supp a v hv) hn ⟨y0, y1, ?_⟩) (fun c => ih _ a (ht.supp a v hv) hn ⟨y0, y1, ?_⟩)
  ·rw [hy] at c; have c' : s.f2 a = none := by cases e : s.f2 a with | none => rfl | some _ => rw [e] at c; simp at c
   simp only; funext b; rw [y2]; simp only [fput, List.mem_cons]; by_cases e : b = a
   ·subst e; simp [forr, c', hv]
   ·simp [e]
  ·rw [hy] at c; have c' : (s.f2 a).isSome = true := by cases e : s.f2 a with | none => rw [e] at c; simp at c | some v => rfl
   rw [y2]; funext b; simp only [List.mem_cons]; by_cases e : b = a
   ·subst e; simp [hn, forr, c']
   ·simp [e]
theorem join_supp {n : Nat} {s t : T46} (hs : Good n s) (ht : Good n t) : ∀ a v, (forr s.f2 t.f2) a = some v → a ∈ kAll n s.f0 s.f1 ++ kAll n t.f0 t.f1 ∧ 0 ≤ a.f0 ∧ a.f0 < n := fun a v h => by
 unfold forr at h
 split at h
 ·exact ⟨List.mem_append_left _ (hs.supp a v h), (hs.mem a v h).1.1⟩
 ·exact ⟨List.mem_append_right _ (ht.supp a v h), (ht.mem a v h).1.1⟩
end Go.Proofs.YtbifgnloeopdaaaDoor.Pure
