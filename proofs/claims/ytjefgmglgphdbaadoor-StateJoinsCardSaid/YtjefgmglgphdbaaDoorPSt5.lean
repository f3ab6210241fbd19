/- States in plain words: states whose records their keys tell; what two have together; what one lacks, accepted. -/
import Derived.Test.YtjefgmglgphdbaaDoorF1
import Derived.Test.YtjefgmglgphdbaaDoorF2
import Derived.Test.YtjefgmglgphdbaaDoorPSt4
namespace Go.Proofs.YtjefgmglgphdbaaDoor.Pure
open Go Go.Gg Go.Gp Gf
set_option linter.unusedVariables false
set_option linter.unusedSimpArgs false
def Told (n : Nat) (s : T63) : Prop := Good n s ∧ ∀ k r, s.f2 k = some r → r = rk k.f0 k.f1
theorem told_eq {n : Nat} {s t : T63} (hs : Told n s) (ht : Told n t) (e0 : s.f0 = t.f0) (e1 : s.f1 = t.f1) : s = t := by
  have e2 : s.f2 = t.f2 := by
    funext k
    by_cases hk : Inr n s.f0 s.f1 k
    · obtain ⟨r, hr⟩ := hs.1.all k hk
      obtain ⟨r', hr'⟩ := ht.1.all k (by rw [← e0, ← e1]; exact hk)
      rw [hr, hr', hs.2 k r hr, ht.2 k r' hr']
    · rw [hs.1.none hk, ht.1.none (by rw [← e0, ← e1]; exact hk)]
  cases s; cases t
  simp only at e0 e1 e2
  subst e0; subst e1; subst e2; rfl
theorem Told.new (n : Nat) : Told n (newS n) := ⟨Good.new n, fun k r h => by cases h⟩
theorem Told.raise {n : Nat} {s : T63} (h : Told n s) {x : List Int} (hx : Vec n x) : Told n (raiseS s x) := ⟨h.1.raise hx, fun k r hk => by
  simp only [raiseS, fcut] at hk
  split at hk
  · cases hk
  · exact h.2 k r hk⟩
theorem Told.accept {n : Nat} {s : T63} (h : Told n s) {o q : Int} (ho : 0 ≤ o ∧ o < n) (hq : q = at0 s.f0 o + 1) (hm : q ≤ 1023) : Told n (acceptS s (rk o q)) := ⟨h.1.accept (r := rk o q) ho hq hm, fun k r hk => by
  simp only [acceptS, fput] at hk
  split at hk
  · rename_i e; cases hk; subst e; rfl
  · exact h.2 k r hk⟩
def cnt (n : Nat) (s : T63) : Nat := (kAll n s.f0 s.f1).length
theorem cnt_raise {n : Nat} {s : T63} (h : Good n s) {x : List Int} (hx : Vec n x) : cnt n (raiseS s x) ≤ cnt n s := by
  unfold cnt
  show (kAll n (zip mx s.f0 (zip mx s.f1 x)) (zip mx s.f1 x)).length ≤ _
  rw [kAll_raise h.v h.w hx]; exact List.length_filter_le _ _
theorem cnt_accept {n : Nat} {s : T63} (h : Good n s) {r : T34} (ho : 0 ≤ r.f0 ∧ r.f0 < n) (hq : r.f1 = at0 s.f0 r.f0 + 1) : cnt n (acceptS s r) ≤ cnt n s + 1 := by
  have := nodup_len (ys := (⟨r.f0, r.f1⟩ : T30) :: kAll n s.f0 s.f1) (kAll_nodup n (acceptS s r).f0 (acceptS s r).f1) fun k hk => by
    obtain ⟨h0, h2, h3⟩ := kAll_mem.1 hk
    have h3 : k.f1 ≤ at0 (s.f0.set r.f0.toNat r.f1) k.f0 := h3
    rw [at0_set h.v.1 ho h0.1] at h3
    by_cases e : k = ⟨r.f0, r.f1⟩
    · rw [e]; exact List.mem_cons_self
    · refine List.mem_cons_of_mem _ (kAll_mem.2 ⟨h0, h2, ?_⟩)
      split at h3
      · rename_i e'
        have : k.f1 ≠ r.f1 := fun e2 => e (by cases k; simp only at e' e2; rw [e', e2])
        rw [e'] at *
        omega
      · exact h3
  simpa [cnt] using this
theorem play_told {n : Nat} {s : T63} (h : Told n s) (h1 : 1 ≤ n) (hn : n ≤ 8) (x : T36) : ∃ s', Ev (fun k => grapevinelaw19_play k s x) s' ∧ Told n s' ∧ cnt n s' ≤ cnt n s + 1 := by
  unfold grapevinelaw19_play
  have stay : cnt n s ≤ cnt n s + 1 := by omega
  by_cases c0 : x.f0 = 0
  · have hA := Accept_eq h.1 (r := rk x.f3 x.f4) (rk_size _ _)
    have go : ∀ {c : Int} {s' : T63}, state_State_Accept s (rk x.f3 x.f4) = some (c, s') → Ev (fun k => if x.f0 = 0 then ((grapevinelaw19_rec x.f3 x.f4).bind fun t3 => ((state_State_Accept s t3).bind fun t7 => some t7.2)) else (if x.f0 = 1 then ((state_State_Retire k s x.f1 x.f2).bind fun t12 => some t12.2) else (if x.f0 = 2 then ((state_State_Raise k s x.f8).bind fun t17 => some t17.2) else some s))) s' := fun hA => by
      refine Ev.pos c0 ?_
      rw [rec_eq]
      refine Ev.name fun t ht => ?_
      subst ht
      rw [hA]
      exact Ev.now _
    by_cases c : recB (rk x.f3 x.f4) = false ∨ (rk x.f3 x.f4).f0 ≥ n
    · rw [if_pos c] at hA; exact ⟨s, go hA, h, stay⟩
    rw [if_neg c] at hA
    simp only [not_or, Bool.not_eq_false] at c
    obtain ⟨hb, hc⟩ := c
    obtain ⟨⟨h0, h8⟩, hb1, hb2⟩ := recB_in hb
    by_cases c1 : (rk x.f3 x.f4).f1 ≤ at0 s.f0 (rk x.f3 x.f4).f0
    · rw [if_pos c1] at hA; exact ⟨s, go hA, h, stay⟩
    rw [if_neg c1] at hA
    by_cases c2 : (rk x.f3 x.f4).f1 > at0 s.f0 (rk x.f3 x.f4).f0 + 1
    · rw [if_pos c2] at hA; exact ⟨s, go hA, h, stay⟩
    rw [if_neg c2] at hA
    have kc : ¬ x.f3 ≥ (n : Int) := hc
    have k0 : 0 ≤ x.f3 ∧ x.f3 < n := ⟨h0, by omega⟩
    have k1 : x.f4 = at0 s.f0 x.f3 + 1 := by
      have e1 : ¬ x.f4 ≤ at0 s.f0 x.f3 := c1
      have e2 : ¬ x.f4 > at0 s.f0 x.f3 + 1 := c2
      omega
    exact ⟨_, go hA, h.accept k0 k1 hb2, cnt_accept h.1 (r := rk x.f3 x.f4) k0 k1⟩
  by_cases c1 : x.f0 = 1
  · have hR := Retire_ev h.1 h1 hn x.f1 x.f2
    by_cases c : (0 ≤ x.f1 ∧ x.f1 < n) ∧ 0 ≤ x.f2 ∧ x.f2 ≤ 1023
    · rw [if_pos c] at hR
      have hv := rtW_vec h.1 c.1 c.2
      exact ⟨_, Ev.neg c0 (Ev.pos c1 (Ev.bind hR (Ev.now _))), h.raise hv, Nat.le_succ_of_le (cnt_raise h.1 hv)⟩
    · rw [if_neg c] at hR
      exact ⟨_, Ev.neg c0 (Ev.pos c1 (Ev.bind hR (Ev.now _))), h, stay⟩
  by_cases c2 : x.f0 = 2
  · by_cases hv : Vec n x.f8
    · exact ⟨_, Ev.neg c0 (Ev.neg c1 (Ev.pos c2 (Ev.bind (Raise_ev h.1 h1 hn hv) (Ev.now _)))), h.raise hv, Nat.le_succ_of_le (cnt_raise h.1 hv)⟩
    · exact ⟨_, Ev.neg c0 (Ev.neg c1 (Ev.pos c2 (Ev.bind (Raise_no h.1 h1 hn hv) (Ev.now _)))), h, stay⟩
  · exact ⟨s, Ev.neg c0 (Ev.neg c1 (Ev.neg c2 (Ev.now _))), h, stay⟩

/-! ### vectors, place by place -/
theorem zip_le {n : Nat} {a b : List Int} (ha : a.length = n) (hb : b.length = n) (h : Le n b a) : zip mx a b = a := vec_ext (len_zip ha hb) ha fun i hi => by
  rw [getD_zip ha hb hi]; have := h i hi; unfold mx; split <;> omega

/-! ### what two have together -/
def forr (f g : T30 → Option T34) : T30 → Option T34 := fun k => if (f k).isSome then f k else g k
def joinS (s t : T63) : T63 := raiseS ⟨zip mx s.f0 t.f0, s.f1, forr s.f2 t.f2⟩ t.f1
theorem Raise_gen {n : Nat} {s : T63} (hv : Vec n s.f0) (hw : Vec n s.f1) (h1 : 1 ≤ n) (hn : n ≤ 8) {ks : List T30} (hf : ∀ a v, s.f2 a = some v → a ∈ ks ∧ 0 ≤ a.f0 ∧ a.f0 < n) {x : List Int} (hx : Vec n x) :
    ∃ c, Ev (fun k => state_State_Raise k s x) (c, raiseS s x) := by
  refine ⟨IntKind.i64.wrap ((mlen s.f2 : Int) - (mlen (raiseS s x).f2 : Int)), ?_⟩
  unfold state_State_Raise
  rw [hv.1]
  refine Ev.bind (May_ev hx h1 hn) ?_
  refine Ev.neg (by simp) ?_
  refine Ev.bind (join2 hw hx hn) ?_
  refine Ev.bind (join2 hv (Vec.join hw hx) hn) ?_
  refine Ev.bind (Delete_ev (n := n) (t := ⟨zip mx s.f0 (zip mx s.f1 x), zip mx s.f1 x, s.f2⟩) (Vec.join hw hx).1 (ks := ks) hf) ?_
  exact Ev.now _
theorem join_f1 (s t : T63) : (joinS s t).f1 = zip mx s.f1 t.f1 := rfl
theorem join_f0 {n : Nat} {s t : T63} (hs : Good n s) (ht : Good n t) : (joinS s t).f0 = zip mx s.f0 t.f0 := by
  show zip mx (zip mx s.f0 t.f0) (zip mx s.f1 t.f1) = _
  refine zip_le (len_zip hs.v.1 ht.v.1) (len_zip hs.w.1 ht.w.1) fun i hi => ?_
  rw [getD_zip hs.w.1 ht.w.1 hi, getD_zip hs.v.1 ht.v.1 hi]
  have h1 := hs.le i hi
  have h2 := ht.le i hi
  unfold mx; split <;> split <;> omega
theorem Told.join {n : Nat} {s t : T63} (hs : Told n s) (ht : Told n t) : Told n (joinS s t) := by
  have f0 := join_f0 hs.1 ht.1
  have f1 := join_f1 s t
  have hV : Vec n (zip mx s.f0 t.f0) := Vec.join hs.1.v ht.1.v
  have hW : Vec n (zip mx s.f1 t.f1) := Vec.join hs.1.w ht.1.w
  have fst : ∀ k r, (joinS s t).f2 k = some r → (¬ k.f1 ≤ at0 (zip mx s.f1 t.f1) k.f0) ∧ (s.f2 k = some r ∨ t.f2 k = some r) := fun k r hk => by
    simp only [joinS, raiseS, fcut, forr] at hk
    split at hk
    · cases hk
    · rename_i c
      split at hk
      · exact ⟨c, .inl hk⟩
      · exact ⟨c, .inr hk⟩
  refine ⟨⟨by rw [f0]; exact hV, by rw [f1]; exact hW, ?_, ?_, ?_⟩, ?_⟩
  · rw [f0, f1]
    intro i hi
    rw [getD_zip hs.1.w.1 ht.1.w.1 hi, getD_zip hs.1.v.1 ht.1.v.1 hi]
    have h1 := hs.1.le i hi
    have h2 := ht.1.le i hi
    unfold mx; split <;> split <;> omega
  · intro k r hk
    obtain ⟨c, h⟩ := fst k r hk
    rw [f0, f1]
    rcases h with h | h
    · obtain ⟨⟨h0, h2, h3⟩, h4⟩ := hs.1.mem k r h
      refine ⟨⟨h0, by omega, ?_⟩, h4⟩
      rw [at0_zip hs.1.v.1 ht.1.v.1 h0]; have := (mx_le (at0 s.f0 k.f0) (at0 t.f0 k.f0)).1; omega
    · obtain ⟨⟨h0, h2, h3⟩, h4⟩ := ht.1.mem k r h
      refine ⟨⟨h0, by omega, ?_⟩, h4⟩
      rw [at0_zip hs.1.v.1 ht.1.v.1 h0]; have := (mx_le (at0 s.f0 k.f0) (at0 t.f0 k.f0)).2; omega
  · intro k hk
    rw [f0, f1] at hk
    obtain ⟨h0, h2, h3⟩ := hk
    have c : ¬ k.f1 ≤ at0 (zip mx s.f1 t.f1) k.f0 := by omega
    simp only [joinS, raiseS, fcut, if_neg c, forr]
    rw [at0_zip hs.1.w.1 ht.1.w.1 h0] at h2
    rw [at0_zip hs.1.v.1 ht.1.v.1 h0] at h3
    have m1 := mx_le (at0 s.f1 k.f0) (at0 t.f1 k.f0)
    by_cases e : k.f1 ≤ at0 s.f0 k.f0
    · obtain ⟨r, hr⟩ := hs.1.all k ⟨h0, by omega, e⟩
      exact ⟨r, by rw [hr]; rfl⟩
    · have e2 : k.f1 ≤ at0 t.f0 k.f0 := by
        rcases mx_cases (at0 s.f0 k.f0) (at0 t.f0 k.f0) with h | h <;> rw [h] at h3 <;> omega
      obtain ⟨r, hr⟩ := ht.1.all k ⟨h0, by omega, e2⟩
      cases hs2 : s.f2 k with
      | none => exact ⟨r, by simp [hr]⟩
      | some r' => exact ⟨r', by simp⟩
  · intro k r hk
    obtain ⟨_, h⟩ := fst k r hk
    rcases h with h | h
    · exact hs.2 k r h
    · exact ht.2 k r h
/-- the copying of records that are lacking -/
theorem copy_loop {n : Nat} {t : T63} (ht : Good n t) (s : T63) {F : Nat → List T30 → T63 → Option T63}
    (hF : ∀ k seen y, F (k + 1) seen y = pickF t.f2 seen (some y) (fun a => fun e => if (!((y.f2 a).isSome)) = true then F k (a :: seen) ⟨y.f0, y.f1, fput y.f2 a e⟩ else F k (a :: seen) y)) :
    Ev (fun k => F k [] s) ⟨s.f0, s.f1, forr s.f2 t.f2⟩ := by
  refine Ev.range (F := fun k (y : T63) seen => F k seen y) (kAll n t.f0 t.f1) (fun y seen => y.f0 = s.f0 ∧ y.f1 = s.f1 ∧ y.f2 = fun a => if a ∈ seen then forr s.f2 t.f2 a else s.f2 a) ?_ s [] ⟨rfl, rfl, by funext a; simp⟩
  intro y seen ⟨y0, y1, y2⟩ ih
  refine Ev.step (fun k => hF k seen y) ?_
  refine Ev.pickF (ks := kAll n t.f0 t.f1) ht.supp (fun hs => (Ev.now _).is ?_) (fun a v hv hn => ?_)
  · cases y
    simp only at y0 y1 y2
    subst y0; subst y1; subst y2
    congr 1
    funext a
    by_cases ha : a ∈ seen
    · rw [if_pos ha]
    · rw [if_neg ha]
      unfold forr
      cases e : t.f2 a with
      | some v => exact absurd (hs a v e) ha
      | none => cases s.f2 a <;> simp
  · have hy : y.f2 a = s.f2 a := by rw [y2]; simp [hn]
    refine Ev.ite (fun c => ih _ a (ht.supp a v hv) hn ⟨y0, y1, ?_⟩) (fun c => ih _ a (ht.supp a v hv) hn ⟨y0, y1, ?_⟩)
    · rw [hy] at c
      have c' : s.f2 a = none := by cases e : s.f2 a with | none => rfl | some _ => rw [e] at c; simp at c
      simp only
      funext b
      rw [y2]
      simp only [fput, List.mem_cons]
      by_cases e : b = a
      · subst e; simp [forr, c', hv]
      · simp [e]
    · rw [hy] at c
      have c' : (s.f2 a).isSome = true := by cases e : s.f2 a with | none => rw [e] at c; simp at c | some v => rfl
      rw [y2]
      funext b
      simp only [List.mem_cons]
      by_cases e : b = a
      · subst e; simp [hn, forr, c']
      · simp [e]
theorem join_supp {n : Nat} {s t : T63} (hs : Good n s) (ht : Good n t) : ∀ a v, (forr s.f2 t.f2) a = some v → a ∈ kAll n s.f0 s.f1 ++ kAll n t.f0 t.f1 ∧ 0 ≤ a.f0 ∧ a.f0 < n := fun a v h => by
  unfold forr at h
  split at h
  · exact ⟨List.mem_append_left _ (hs.supp a v h), (hs.mem a v h).1.1⟩
  · exact ⟨List.mem_append_right _ (ht.supp a v h), (ht.mem a v h).1.1⟩

/-! ### what one lacks -/
theorem Lacks_ev {n : Nat} {b : T63} (h : Good n b) (h1 : 1 ≤ n) (hn : n ≤ 8) {v w : List Int} (hv : Vec n v) (hw : Vec n w) (hwv : Le n w v) (hb : Le n b.f1 v) : Ev (fun k => state_State_Lacks k b v w) (recs n b v) := by
  unfold state_State_Lacks
  rw [h.v.1]
  refine Ev.bind (b := false) (Ev.bind (May_ev hv h1 hn) (Ev.neg (by simp) (Ev.bind (May_ev hw h1 hn) (Ev.now _)))) ?_
  refine Ev.neg Bool.false_ne_true ?_
  refine Ev.bind ((join2 hv hw hn).is (zip_le hv.1 hw.1 hwv)) ?_
  refine Ev.bind ((above_ev h hn hv).is (by rw [zip_le hv.1 h.w.1 hb])) (Ev.now _)
theorem recs_told {n : Nat} {b : T63} (h : Told n b) {v : List Int} (hb : Le n b.f1 v) : recs n b v = (kAll n b.f0 v).map fun k => rk k.f0 k.f1 := by
  unfold recs
  refine List.map_congr_left fun k hk => ?_
  obtain ⟨h0, h2, h3⟩ := kAll_mem.1 hk
  have := hb.at0 h0
  obtain ⟨r, hr⟩ := h.1.all k ⟨h0, by omega, h3⟩
  rw [hr, Option.getD_some, h.2 k r hr]
theorem kAll_head {n : Nat} {u v : List Int} (hv : v.length = n) (hu : u.length = n) {k : T30} {t : List T30} (e : kAll n u v = k :: t) :
    Inr n u v k ∧ k.f1 = at0 v k.f0 + 1 ∧ t = kAll n u (v.set k.f0.toNat k.f1) ∧ zip mx (v.set k.f0.toNat k.f1) u = zip mx v u := by
  have hk : Inr n u v k := kAll_mem.1 (by rw [e]; exact List.mem_cons_self)
  obtain ⟨h0, h2, h3⟩ := hk
  have pw := kAll_pw n u v
  rw [e] at pw
  obtain ⟨p1, p2⟩ := List.pairwise_cons.1 pw
  have e1 : k.f1 = at0 v k.f0 + 1 := by
    have hm : (⟨k.f0, at0 v k.f0 + 1⟩ : T30) ∈ kAll n u v := kAll_mem.2 ⟨h0, by simp only; omega, by simp only; omega⟩
    rw [e] at hm
    rcases List.mem_cons.1 hm with h | h
    · exact (congrArg T30.f1 h).symm
    · have := p1 _ h
      unfold klt at this
      simp only at this
      omega
  refine ⟨⟨h0, h2, h3⟩, e1, ?_, ?_⟩
  · refine kAll_ext p2 fun x => ?_
    have hx : x ∈ kAll n u v ↔ x = k ∨ x ∈ t := by rw [e]; exact List.mem_cons
    rw [kAll_mem] at hx
    constructor
    · intro hxt
      obtain ⟨g0, g2, g3⟩ := hx.2 (.inr hxt)
      refine ⟨g0, ?_, g3⟩
      rw [at0_set hv h0 g0.1]
      split
      · rename_i e'
        have := p1 x hxt
        unfold klt at this
        omega
      · exact g2
    · rintro ⟨g0, g2, g3⟩
      rw [at0_set hv h0 g0.1] at g2
      have hin : Inr n u v x := ⟨g0, by split at g2 <;> (try rename_i e'; rw [e'] at *) <;> omega, g3⟩
      rcases hx.1 hin with h | h
      · subst h; rw [if_pos rfl] at g2; omega
      · exact h
  · refine vec_ext (len_zip (by rw [List.length_set]; exact hv) hu) (len_zip hv hu) fun i hi => ?_
    rw [getD_zip (by rw [List.length_set]; exact hv) hu hi, getD_zip hv hu hi]
    have := at0_set (q := k.f1) hv h0 (o := (i : Int)) (by omega)
    have eq : ∀ l : List Int, at0 l (i : Int) = l.getD i 0 := fun l => by unfold at0; rw [Int.toNat_natCast]
    rw [eq, eq] at this
    rw [this]
    split
    · rename_i e'
      rw [← e', eq] at h3 h2 e1
      unfold mx; split <;> split <;> omega
    · rfl
theorem accept_one {n : Nat} {c : T63} (h : Told n c) (hn : n ≤ 8) {u : List Int} (hu : Vec n u) {k : T30} {t : List T30} (e : kAll n u c.f0 = k :: t) :
    ∃ c', state_State_Accept c (rk k.f0 k.f1) = some (0, c') ∧ Told n c' ∧ c'.f1 = c.f1 ∧ kAll n u c'.f0 = t ∧ zip mx c'.f0 u = zip mx c.f0 u := by
  obtain ⟨⟨h0, h2, h3⟩, e1, e2, e3⟩ := kAll_head h.1.v.1 hu.1 e
  have hb := hu.2 k.f0.toNat
  have hb' := h.1.v.2 k.f0.toNat
  have eb : u.getD k.f0.toNat 0 = at0 u k.f0 := rfl
  have eb' : c.f0.getD k.f0.toNat 0 = at0 c.f0 k.f0 := rfl
  rw [eb] at hb; rw [eb'] at hb'
  have hmay : recB (rk k.f0 k.f1) = true := by rw [rk_may]; exact decide_eq_true ⟨⟨h0.1, by omega⟩, by omega, by omega⟩
  refine ⟨acceptS c (rk k.f0 k.f1), ?_, h.accept h0 e1 (by omega), rfl, e2.symm, e3⟩
  rw [Accept_eq h.1 (rk_size _ _), hmay]
  have r0 : (rk k.f0 k.f1).f0 = k.f0 := rfl
  have r1 : (rk k.f0 k.f1).f1 = k.f1 := rfl
  rw [r0, r1, if_neg (show ¬ (true = false ∨ k.f0 ≥ (n : Int)) by simp; omega), if_neg (by omega), if_neg (by omega)]
theorem kAll_nil {n : Nat} {u v : List Int} (h : kAll n u v = []) : Le n u v := fun i hi => by
  refine Classical.byContradiction fun hc => ?_
  have hm : (⟨(i : Int), v.getD i 0 + 1⟩ : T30) ∈ kAll n u v := kAll_mem.2 ⟨⟨by simp only; omega, by simp only; omega⟩, by simp only [at0, Int.toNat_natCast]; omega, by simp only [at0, Int.toNat_natCast]; omega⟩
  rw [h] at hm; cases hm
end Go.Proofs.YtjefgmglgphdbaaDoor.Pure
