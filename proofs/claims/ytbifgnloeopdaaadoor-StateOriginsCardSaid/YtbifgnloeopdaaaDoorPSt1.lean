/- States in plain words: what the program's functions tell. -/
import Derived.Test.YtbifgnloeopdaaaDoorF0
import Derived.Test.YtbifgnloeopdaaaDoorF1
import Derived.Test.YtbifgnloeopdaaaDoorPSt0
namespace Go.Proofs.YtbifgnloeopdaaaDoor.Pure
open Go Go.Gg Go.Gp Gf
set_option linter.unusedVariables false
set_option linter.unusedSimpArgs false
def recB (r : T33) : Bool := decide (0 ≤ r.f0 ∧ r.f0 < 8 ∧ 1 ≤ r.f1 ∧ r.f1 ≤ 1023 ∧ 0 ≤ r.f2 ∧ r.f2 ≤ 1099511627776 ∧ 0 ≤ r.f3 ∧ r.f3 ≤ 65535) && (decide (r.f4.size ≤ 120) && Lib.validD r.f4.data.toList)
theorem tokMay_eq {a : ByteArray} (h : a.size ≤ 9223372036854775807) : tokens_May a = some (decide (a.size ≤ 120) && Lib.validD a.data.toList) := by
 unfold tokens_May utf8_ValidString; rw [if_pos h]; by_cases c : a.size ≤ 120
 ·rw [if_pos (by omega), decide_eq_true c]; simp
 ·rw [if_neg (by omega), decide_eq_false c]; simp
theorem recMay_eq {r : T33} (h : r.f4.size ≤ 9223372036854775807) : record_May r = some (recB r) := by
 unfold record_May stamp_May stamp_wall recB; rw [tokMay_eq h]; by_cases c : 0 ≤ r.f0 ∧ r.f0 < 8 ∧ 1 ≤ r.f1 ∧ r.f1 ≤ 1023 ∧ 0 ≤ r.f2 ∧ r.f2 ≤ 1099511627776 ∧ 0 ≤ r.f3 ∧ r.f3 ≤ 65535
 ·obtain ⟨a, b, e, f, g, i, j, l⟩ := c; simp [a, b, e, f, g, i, j, l]
 ·rw [decide_eq_false c]; simp only [Bool.false_and]; by_cases a : r.f0 ≥ 0
  ·by_cases b : r.f0 < 8
   ·by_cases e : r.f1 ≥ 1
    ·by_cases f : r.f1 ≤ 1023
     ·by_cases g : r.f2 ≥ 0
      ·by_cases i : r.f2 ≤ 1099511627776
       ·by_cases j : r.f3 ≥ 0
        ·have l : ¬ r.f3 ≤ 65535 := by omega
         simp [a, b, e, f, g, i, j, l]
        ·simp [a, b, e, f, g, i, j]
       ·simp [a, b, e, f, g, i]
      ·simp [a, b, e, f, g]
     ·simp [a, b, e, f]
    ·simp [a, b, e]
   ·simp [a, b]
  ·simp [a]
theorem recB_in {r : T33} (h : recB r = true) : (0 ≤ r.f0 ∧ r.f0 < 8) ∧ 1 ≤ r.f1 ∧ r.f1 ≤ 1023 := by
 unfold recB at h; simp only [Bool.and_eq_true, decide_eq_true_eq] at h; omega
def newS (n : Nat) : T46 := ⟨List.replicate n 0, List.replicate n 0, fnil⟩
theorem New_none {a : Int} (h : ¬ (1 ≤ a ∧ a ≤ 8)) : state_New a = some none := by
 unfold state_New; by_cases c : a < 1
 ·rw [if_pos c]; rfl
 ·rw [if_neg c, decide_eq_true (by omega)]; rfl
theorem New_some {n : Nat} (h1 : 1 ≤ n) (hn : n ≤ 8) : state_New (n : Int) = some (some (newS n)) := by
 unfold state_New; rw [if_neg (by omega), decide_eq_false (by omega), Zero_some h1 hn]; rfl
theorem Good.new (n : Nat) : Good n (newS n) where
 v := Vec.zero n
 w := Vec.zero n
 le := fun i hi => Int.le_refl _
 mem := fun k r h => by cases h
 all := fun k h => by
  obtain ⟨h0, h1, h2⟩ := h; have h1 : (List.replicate n (0 : Int)).getD k.f0.toNat 0 < k.f1 := h1; have h2 : k.f1 ≤ (List.replicate n (0 : Int)).getD k.f0.toNat 0 := h2; omega
theorem V_eq {n : Nat} {s : T46} (h : Good n s) (hn : n ≤ 8) : state_State_V s = some s.f0 := by
 unfold state_State_V slices_Clone; have := h.v.1; rw [if_pos (by omega)]; rfl
theorem W_eq {n : Nat} {s : T46} (h : Good n s) (hn : n ≤ 8) : state_State_W s = some s.f1 := by
 unfold state_State_W slices_Clone; have := h.w.1; rw [if_pos (by omega)]; rfl
def rowR (s : T46) (p : T73) : List T33 := (List.range p.f2.toNat).map fun (i : Nat) => (s.f2 ⟨p.f0, p.f1 + (i : Int)⟩).getD z33
theorem above_row (s : T46) (l : List T73) (j : Nat) (hp : 0 ≤ (l.getD j z73).f1 ∧ (l.getD j z73).f1 ≤ 2000 ∧ 0 ≤ (l.getD j z73).f2 ∧ (l.getD j z73).f2 ≤ 2000) (acc : List T33) (ha : acc.length ≤ 1000000) :
  Ev (fun k => state_State_above_l1 s l (j : Int) k acc 0) (acc ++ rowR s (l.getD j z73)) := by
 obtain ⟨p, hpe⟩ : ∃ p, p = l.getD j z73 := ⟨_, rfl⟩; rw [← hpe] at hp ⊢; have := Ev.count (F := fun k (a : List T33) i => state_State_above_l1 s l (j : Int) k a i) (r := acc ++ rowR s p) (fun i => acc ++ (List.range i).map fun (i : Nat) => (s.f2 ⟨p.f0, p.f1 + (i : Int)⟩).getD z33) p.f2.toNat (fun i hi r H => by
  refine Ev.step (fun k => by rw [state_State_above_l1]) ?_; rw [Int.toNat_natCast, ← hpe]; refine Ev.pos (by omega) ?_; refine Ev.pos (by simp; omega) ?_; rw [i64w (by omega), i64w (by omega), List.append_assoc]; rw [List.range_succ, List.map_append] at H; exact H) (by
  refine Ev.step (fun k => by rw [state_State_above_l1]) ?_; rw [Int.toNat_natCast, ← hpe]; exact Ev.neg (by omega) ((Ev.now _).is (by rfl)))
 simpa using this
theorem above_rows (s : T46) (l : List T73) (hl : l.length ≤ 8) (hp : ∀ p ∈ l, 0 ≤ p.f1 ∧ p.f1 ≤ 2000 ∧ 0 ≤ p.f2 ∧ p.f2 ≤ 2000) : Ev (fun k => state_State_above_l0 s l k [] 0) (l.flatMap (rowR s)) := by
 have hlen : ∀ j, j ≤ l.length → ((l.take j).flatMap (rowR s)).length ≤ 2000 * j := by
  intro j
  induction j with
  | zero => simp
  | succ j ih =>
   intro hj; rw [take_getD l z73 (by omega), List.flatMap_append, List.length_append]; have h1 := ih (by omega); have h2 := hp (l.getD j z73) (by rw [getD_eq l z73 (by omega)]; exact List.getElem_mem _); simp only [List.flatMap_cons, List.flatMap_nil, List.append_nil, rowR, List.length_map, List.length_range] at h1 ⊢; omega
 have := Ev.count (F := fun k (a : List T33) i => state_State_above_l0 s l k a i) (r := l.flatMap (rowR s)) (fun j => (l.take j).flatMap (rowR s)) l.length (fun j hj r H => by
  refine Ev.step (fun k => by rw [state_State_above_l0]) ?_; refine Ev.pos (by omega) (Ev.pos (by omega) ?_); refine Ev.bind (above_row s l j (hp _ (by rw [getD_eq l z73 hj]; exact List.getElem_mem _)) _ (by have := hlen j (by omega); omega)) ?_; rw [step64 j (by omega)]; rw [take_getD l z73 hj, List.flatMap_append] at H; simpa using H) (by
  refine Ev.step (fun k => by rw [state_State_above_l0]) ?_; exact Ev.neg (by omega) ((Ev.now _).is (by rw [List.take_length])))
 simpa using this
theorem kAll_succ (n : Nat) (v w : List Int) : kAll (n + 1) v w = kAll n v w ++ kRow w v n := by
 simp [kAll, List.range_succ]
theorem lk_rows (s : T46) (m y f t : List Int) (ht : ∀ o, top y f o = t.getD o 0) : ∀ n : Nat, (lk m y f n).flatMap (rowR s) = (kAll n m t).map fun k => (s.f2 k).getD z33
 | 0 => by simp [lk, kAll]
 | n + 1 => by
  have ih := lk_rows s m y f t ht n; have el : lk m y f (n + 1) = if top y f n < m.getD n 0 then lk m y f n ++ [⟨n, top y f n + 1, m.getD n 0 - top y f n⟩] else lk m y f n := rfl
  rw [el, kAll_succ, List.map_append, ← ih]; have e : (kRow t m n).map (fun k => (s.f2 k).getD z33) = rowR s ⟨n, top y f n + 1, m.getD n 0 - top y f n⟩ := by
   simp only [kRow, rowR, List.map_map, ht]; rfl
  split
  ·rw [List.flatMap_append, e]; simp
  ·rw [e]
   rename_i h
   have : (m.getD n 0 - top y f n).toNat = 0 := by omega
   unfold rowR; rw [this]; simp
theorem above_ev {n : Nat} {s : T46} (h : Good n s) (hn : n ≤ 8) {fr : List Int} (hf : Vec n fr) : Ev (fun k => state_State_above k s fr) (recs n s (zip mx fr s.f1)) := by
 unfold state_State_above; rw [V_eq h hn, W_eq h hn]; show Ev (fun k => (vector_Lack k s.f0 fr s.f1).bind fun t9 => (state_State_above_l0 s t9 k [] 0).bind fun s15 => some s15) _; refine Ev.bind (Lack_ev h.v hf h.w hn) ?_; have ht : ∀ o, top fr s.f1 o = (zip mx fr s.f1).getD o 0 := fun o => by
  by_cases ho : o < n
  ·rw [getD_zip hf.1 h.w.1 ho]; rfl
  ·have h1 := hf.1; have h2 := h.w.1; rw [getD_over _ _ (by rw [len_zip h1 h2]; omega)]; unfold top; rw [getD_over _ _ (by omega), getD_over _ _ (by omega)]; rfl
 refine Ev.bind (above_rows s _ (by have := lk_len s.f0 fr s.f1 n; omega) fun p hp => ?_) ((Ev.now _).is (lk_rows s _ _ _ _ ht n)); obtain ⟨o, ho, hlt, rfl⟩ := lk_mem n hp; have h1 := top_range hf h.w o; have h2 := h.v.2 o; simp only; omega
theorem zip_self {n : Nat} {w : List Int} (h : w.length = n) : zip mx w w = w := vec_ext (len_zip h h) h fun i hi => by rw [getD_zip h h hi]; unfold mx; split <;> rfl
theorem Records_ev {n : Nat} {s : T46} (h : Good n s) (hn : n ≤ 8) : Ev (fun k => state_State_Records k s) (recs n s s.f1) := by
 unfold state_State_Records; rw [W_eq h hn]; refine Ev.name fun t ht => ?_
 subst ht; refine Ev.bind ((above_ev h hn h.w).is (by rw [zip_self h.w.1])) (Ev.now _)
theorem Accept_eq {n : Nat} {s : T46} (h : Good n s) {r : T33} (hr : r.f4.size ≤ 9223372036854775807) :
  state_State_Accept s r = some (if recB r = false ∨ r.f0 ≥ n then (2, s) else if r.f1 ≤ at0 s.f0 r.f0 then (6, s) else if r.f1 > at0 s.f0 r.f0 + 1 then (7, s) else (0, acceptS s r)) := by
 unfold state_State_Accept; rw [recMay_eq hr]; have hl := h.v.1
 cases hb : recB r
 ·simp
 ·obtain ⟨⟨h0, h8⟩, h1, h2⟩ := recB_in hb; simp only [Option.bind_some, Bool.not_true, Bool.false_eq_true, if_false, hl]; by_cases c : r.f0 ≥ n
  ·simp [c]
  ·have hb2 := h.v.2 r.f0.toNat; rw [decide_eq_false c, if_neg (show ¬ (true = false ∨ r.f0 ≥ (n : Int)) by simpa using c)]; simp only [Bool.false_eq_true, if_false]; rw [if_pos ⟨h0, by omega⟩]; have e : s.f0.getD r.f0.toNat 0 = at0 s.f0 r.f0 := rfl; rw [e] at hb2 ⊢; rw [i64w (by omega)]; have hin : 0 ≤ r.f0 ∧ r.f0 < (n : Int) := ⟨h0, by omega⟩; by_cases c1 : r.f1 ≤ at0 s.f0 r.f0
   ·rw [if_pos c1, if_pos c1]
   ·rw [if_neg c1, if_neg c1, if_pos hin]; by_cases c2 : r.f1 > at0 s.f0 r.f0 + 1
    ·rw [if_pos c2, if_pos c2]
    ·rw [if_neg c2, if_neg c2, if_pos hin]; rfl
theorem Delete_ev {n : Nat} {t : T46} (hw : t.f1.length = n) {f : T29 → Option T33} {ks : List T29} (hf : ∀ a v, f a = some v → a ∈ ks ∧ 0 ≤ a.f0 ∧ a.f0 < n) : Ev (fun k => maps_DeleteFunc k f t) (fcut t.f1 f) := by
 unfold maps_DeleteFunc; refine Ev.bind ?_ (Ev.now _); refine Ev.range (F := fun k (m : T29 → Option T33) seen => maps_DeleteFunc_l0 t k seen m) ks (fun m seen => m = fun a => if a ∈ seen ∧ a.f1 ≤ at0 t.f1 a.f0 then none else f a) ?_ f [] (by funext a; simp); intro m seen hm ih; have hmf : ∀ a v, m a = some v → f a = some v := fun a v e => by
  rw [hm] at e; simp only at e; split at e
  ·cases e
  ·exact e
 refine Ev.step (fun k => by rw [maps_DeleteFunc_l0]) ?_; refine Ev.pickF (ks := ks) (fun a v e => (hf a v (hmf a v e)).1) (fun hs => (Ev.now _).is ?_) (fun a v hv hn => ?_)
 ·funext a; rw [hm]; simp only [fcut]; by_cases ha : a ∈ seen
  ·simp only [ha, true_and]
  ·simp only [ha, false_and, if_false]
   cases e : f a with
   | none => simp
   | some v => exact absurd (hs a v (by rw [hm]; simp only [ha, false_and, if_false]; exact e)) ha
 ·obtain ⟨hk, h0, h1⟩ := hf a v (hmf a v hv); unfold state_State_Raise_1; refine Ev.bind (b := decide (a.f1 ≤ at0 t.f1 a.f0)) ((Ev.now _).congr fun k => ?_) ?_
  ·rw [if_pos ⟨h0, by omega⟩]; rfl
  ·refine Ev.ite (fun c => ih _ a hk hn ?_) (fun c => ih _ a hk hn ?_)
   ·funext b; rw [hm]; simp only [fdel, List.mem_cons]; by_cases e : b = a
    ·subst e; simp [of_decide_eq_true c]
    ·simp [e]
   ·funext b; rw [hm]; simp only [List.mem_cons]; have c' : ¬ a.f1 ≤ at0 t.f1 a.f0 := by simpa using c
    by_cases e : b = a
    ·subst e; simp [hn, c']
    ·simp [e]
theorem Raise_ev {n : Nat} {s : T46} (h : Good n s) (h1 : 1 ≤ n) (hn : n ≤ 8) {x : List Int} (hx : Vec n x) : Ev (fun k => state_State_Raise k s x) (IntKind.i64.wrap ((mlen s.f2 : Int) - (mlen (raiseS s x).f2 : Int)), raiseS s x) := by
 unfold state_State_Raise; rw [h.v.1]; refine Ev.bind (May_ev hx h1 hn) ?_; refine Ev.neg (by simp) ?_; refine Ev.bind (join2 h.w hx hn) ?_; refine Ev.bind (join2 h.v (Vec.join h.w hx) hn) ?_; refine Ev.bind (Delete_ev (n := n) (t := ⟨zip mx s.f0 (zip mx s.f1 x), zip mx s.f1 x, s.f2⟩) (Vec.join h.w hx).1 (ks := kAll n s.f0 s.f1) fun a v e => ⟨h.supp a v e, (h.mem a v e).1.1⟩) ?_; exact Ev.now _
def rtW (s : T46) (o u : Int) : List Int := s.f1.set o.toNat (if (if at0 s.f0 o < u then at0 s.f0 o else u) > at0 s.f1 o then (if at0 s.f0 o < u then at0 s.f0 o else u) else at0 s.f1 o)
theorem rtW_vec {n : Nat} {s : T46} (h : Good n s) {o u : Int} (ho : 0 ≤ o ∧ o < n) (hu : 0 ≤ u ∧ u ≤ 1023) : Vec n (rtW s o u) := by
 refine Vec.of (by unfold rtW; rw [List.length_set]; exact h.w.1) fun i hi => ?_
 have := at0_set (v := s.f1) h.w.1 (i := o) (o := (i : Int)) (q := if (if at0 s.f0 o < u then at0 s.f0 o else u) > at0 s.f1 o then (if at0 s.f0 o < u then at0 s.f0 o else u) else at0 s.f1 o) ho (by omega); have h1 := h.w.2 i; have h2 := h.w.2 o.toNat; have h3 := h.v.2 o.toNat; unfold rtW; have e : ∀ l : List Int, at0 l (i : Int) = l.getD i 0 := fun l => by unfold at0; rw [Int.toNat_natCast]
 rw [e, e] at this; rw [this]; unfold at0
 split
 ·split <;> split <;> omega
 ·exact h1
theorem Retire_ev {n : Nat} {s : T46} (h : Good n s) (h1 : 1 ≤ n) (hn : n ≤ 8) (o u : Int) : Ev (fun k => state_State_Retire k s o u) (if (0 ≤ o ∧ o < n) ∧ 0 ≤ u ∧ u ≤ 1023 then (0, raiseS s (rtW s o u)) else (2, s)) := by
 unfold state_State_Retire; rw [h.v.1]; by_cases c : (0 ≤ o ∧ o < n) ∧ 0 ≤ u ∧ u ≤ 1023
 ·rw [if_pos c]; obtain ⟨ho, hu⟩ := c; refine Ev.bind (b := false) (Ev.neg (by omega) (Ev.neg (by omega) (Ev.neg (by omega) ((Ev.now _).is (decide_eq_false (by omega)))))) ?_; refine Ev.neg Bool.false_ne_true ?_; rw [W_eq h hn]; have hl := h.w.1; refine Ev.name fun t ht => ?_
  subst ht; refine Ev.pos (by omega) (Ev.pos (by omega) (Ev.pos (by omega) ?_)); refine Ev.name fun v hv => ?_
  have hv : v = rtW s o u := hv; subst hv; exact Ev.bind (Raise_ev h h1 hn (rtW_vec h ho hu)) (Ev.now _)
 ·rw [if_neg c]; refine Ev.bind (b := true) ?_ (Ev.pos rfl (Ev.now _)); refine Ev.ite (fun _ => Ev.now _) (fun a => Ev.ite (fun _ => Ev.now _) (fun b => Ev.ite (fun _ => Ev.now _) (fun d => (Ev.now _).is (decide_eq_true (by omega)))))
end Go.Proofs.YtbifgnloeopdaaaDoor.Pure
