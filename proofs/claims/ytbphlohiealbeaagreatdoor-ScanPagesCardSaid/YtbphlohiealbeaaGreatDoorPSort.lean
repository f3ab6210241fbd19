
import Derived.Test.YtbphlohiealbeaaGreatDoorF1
import Derived.Test.YtbphlohiealbeaaGreatDoorF2
import Derived.Test.YtbphlohiealbeaaGreatDoorF3
import Derived.Test.YtbphlohiealbeaaGreatDoorGgS
namespace Go.Proofs.YtbphlohiealbeaaGreatDoor.Pure
open Go Go.Gg Go.Gp Gf
set_option linter.unusedVariables false
set_option linter.unusedSimpArgs false
def ltr (a b : T31) : Bool := decide (a.f2 < b.f2 ∨ a.f2 = b.f2 ∧ (a.f3 < b.f3 ∨ a.f3 = b.f3 ∧ (a.f0 < b.f0 ∨ a.f0 = b.f0 ∧ a.f1 < b.f1)))
theorem ltr_swo : SWO ltr where
 irr a := by simp only [ltr, decide_eq_false_iff_not]; omega
 tr a b c h1 h2 := by simp only [ltr, decide_eq_true_eq] at *; omega
 neg a b c h1 := by simp only [ltr, decide_eq_true_eq] at *; omega
theorem Less_some (a b : T31) : record_Less a b = some (ltr a b) := by
 unfold record_Less stamp_Less record_Before ltr; by_cases h : (⟨a.f2, a.f3⟩ : T29) = ⟨b.f2, b.f3⟩
 ·rw [if_neg (not_not_intro h)]; have h := T29.mk.inj h; by_cases h2 : a.f0 = b.f0
  ·rw [if_neg (not_not_intro h2)]; simp only [Option.bind_some]; congr 1; exact decide_eq_decide.2 (by omega)
  ·rw [if_pos h2]; simp only [Option.bind_some]; congr 1; exact decide_eq_decide.2 (by omega)
 ·rw [if_pos h]; have h : ¬ (a.f2 = b.f2 ∧ a.f3 = b.f3) := fun e => h (by rw [e.1, e.2])
  by_cases h2 : a.f2 = b.f2
  ·rw [if_neg (not_not_intro h2)]; simp only [Option.bind_some]; congr 1; exact decide_eq_decide.2 (by omega)
  ·rw [if_pos h2]; simp only [Option.bind_some]; congr 1; exact decide_eq_decide.2 (by omega)
theorem order_some (a b : T31) : ∃ o, record_order a b = some o ∧ (o < 0 ↔ ltr a b = true) := by
 unfold record_order; simp only [Less_some, Option.bind_some]
 cases h : ltr a b
 ·cases h2 : ltr b a <;> exact ⟨_, rfl, by decide⟩
 ·exact ⟨_, rfl, by decide⟩
theorem swapRange_ev (p w q : List T31) (n : Nat) : ∀ (us vs : List T31), us.length = n → vs.length = n → p.length + n + w.length + n + q.length < 1073741824 →
  Ev (fun k => slices_swapRangeCmpFunc k (p ++ (us ++ (w ++ (vs ++ q)))) (p.length : Int) ((p.length + n + w.length : Nat) : Int) (n : Int)) (p ++ (vs ++ (w ++ (us ++ q)))) := by
 intro us vs hu hv hl; refine Ev.bind (b := p ++ (vs ++ (w ++ (us ++ q)))) ?_ (Ev.now _); have := Ev.count (F := fun k (s : List T31) i => slices_swapRangeCmpFunc_l0 (p.length : Int) ((p.length + n + w.length : Nat) : Int) (n : Int) k i s) (r := p ++ (vs ++ (w ++ (us ++ q))))
  (fun i => p ++ ((vs.take i ++ us.drop i) ++ (w ++ ((us.take i ++ vs.drop i) ++ q)))) n (fun i hi r H => by
   refine Ev.step (fun k => ?_) H; have e1 : IntKind.i64.wrap (((p.length + n + w.length : Nat) : Int) + (i : Int)) = ((p.length + n + w.length + i : Nat) : Int) := by rw [i64w (by omega)]; omega
   have e2 : IntKind.i64.wrap ((p.length : Int) + (i : Int)) = ((p.length + i : Nat) : Int) := by rw [i64w (by omega)]; omega
   have e3 : IntKind.i64.wrap ((i : Int) + 1) = ((i + 1 : Nat) : Int) := by rw [i64w (by omega)]; omega
   have hlen : (p ++ ((vs.take i ++ us.drop i) ++ (w ++ ((us.take i ++ vs.drop i) ++ q)))).length = p.length + n + w.length + n + q.length := by simp; omega
   rw [slices_swapRangeCmpFunc_l0, e1, e2, e3, if_pos (by omega), if_pos (by rw [hlen]; omega), if_pos (by rw [hlen]; omega), if_pos (by rw [hlen]; omega), if_pos (by rw [List.length_set, hlen]; omega)]; simp only [Int.toNat_natCast]; have hd1 := drop_getD us z31 (i := i) (by omega); have hd2 := drop_getD vs z31 (i := i) (by omega); have ht1 := take_getD us z31 (i := i) (by omega); have ht2 := take_getD vs z31 (i := i) (by omega); have hs : p ++ ((vs.take i ++ us.drop i) ++ (w ++ ((us.take i ++ vs.drop i) ++ q))) = (p ++ vs.take i) ++ us.getD i z31 :: ((us.drop (i + 1) ++ (w ++ us.take i)) ++ vs.getD i z31 :: (vs.drop (i + 1) ++ q)) := by rw [hd1, hd2]; simp
   have hr : p ++ ((vs.take (i + 1) ++ us.drop (i + 1)) ++ (w ++ ((us.take (i + 1) ++ vs.drop (i + 1)) ++ q))) = (p ++ vs.take i) ++ vs.getD i z31 :: ((us.drop (i + 1) ++ (w ++ us.take i)) ++ us.getD i z31 :: (vs.drop (i + 1) ++ q)) := by rw [ht1, ht2]; simp
   have l1 : (p ++ vs.take i).length = p.length + i := by simp; omega
   have l2 : (us.drop (i + 1) ++ (w ++ us.take i)).length = n - (i + 1) + w.length + i := by simp; omega
   have key := swp_mid z31 (p ++ vs.take i) (us.drop (i + 1) ++ (w ++ us.take i)) (vs.drop (i + 1) ++ q) (us.getD i z31) (vs.getD i z31); rw [l1, l2, show p.length + i + 1 + (n - (i + 1) + w.length + i) = p.length + n + w.length + i by omega, ← hs, ← hr] at key; unfold swp at key; rw [key]) (by
  refine Ev.step (g := fun _ => some (p ++ (vs ++ (w ++ (us ++ q))))) (fun k => ?_) (Ev.now _); rw [slices_swapRangeCmpFunc_l0, if_neg (by omega), List.take_of_length_le (by omega), List.take_of_length_le (by omega), List.drop_eq_nil_of_le (by omega), List.drop_eq_nil_of_le (by omega)]; simp)
 simpa using this
theorem rotate_l_ev (m : Nat) : ∀ (n : Nat) (p us vs q : List T31), us.length + vs.length = n → 0 < us.length → 0 < vs.length → p.length + us.length = m → p.length + us.length + vs.length + q.length < 1073741824 →
  ∃ (i : Nat) (p' us' vs' q' : List T31), us'.length = i ∧ vs'.length = i ∧ p'.length + i = m ∧ p' ++ (vs' ++ (us' ++ q')) = p ++ (vs ++ (us ++ q)) ∧ 
   Ev (fun k => slices_rotateCmpFunc_l0 (m : Int) k (us.length : Int) (vs.length : Int) (p ++ (us ++ (vs ++ q)))) ((i : Int), p' ++ (us' ++ (vs' ++ q'))) := by
 intro n
 induction n using Nat.strongRecOn with
 | ind n ih =>
  intro p us vs q hn hu hv hm hl; by_cases e : us.length = vs.length
  ·refine ⟨us.length, p, us, vs, q, rfl, e.symm, hm, rfl, Ev.step (g := fun _ => some ((us.length : Int), p ++ (us ++ (vs ++ q)))) (fun k => ?_) (Ev.now _)⟩; rw [slices_rotateCmpFunc_l0, if_neg (by omega)]
  by_cases e2 : us.length > vs.length
  ·-- us = u1 ++ u2, |u1| = |vs|
   have hu1 : (us.take vs.length).length = vs.length := by simp; omega
   have hu2 : (us.drop vs.length).length = us.length - vs.length := by simp
   obtain ⟨i, p', us', vs', q', h1, h2, h3, h4, h5⟩ := ih us.length (by omega) (p ++ vs) (us.drop vs.length) (us.take vs.length) q (by omega) (by omega) (by omega) (by simp; omega) (by simp; omega); refine ⟨i, p', us', vs', q', h1, h2, h3, by rw [h4]; simp [← List.append_assoc, List.take_append_drop], ?_⟩; have hsw := swapRange_ev p (us.drop vs.length) q vs.length (us.take vs.length) vs hu1 rfl (by omega); rw [show us.take vs.length ++ (us.drop vs.length ++ (vs ++ q)) = us ++ (vs ++ q) by rw [← List.append_assoc, List.take_append_drop]] at hsw; refine Ev.step (g := fun k => (slices_swapRangeCmpFunc k (p ++ (us ++ (vs ++ q))) (p.length : Int) ((p.length + vs.length + (us.drop vs.length).length : Nat) : Int) (vs.length : Int)).bind fun t => slices_rotateCmpFunc_l0 (m : Int) k ((us.drop vs.length).length : Int) (vs.length : Int) t) (fun k => ?_) (Ev.bind hsw ?_)
   ·rw [slices_rotateCmpFunc_l0, if_pos (by omega), if_pos (by omega), i64w (x := (m : Int) - _) (by omega), i64w (x := (us.length : Int) - _) (by omega), show (m : Int) - (us.length : Int) = (p.length : Int) by omega,
     show (m : Int) = ((p.length + vs.length + (us.drop vs.length).length : Nat) : Int) by omega, show (us.length : Int) - (vs.length : Int) = ((us.drop vs.length).length : Int) by omega]
   ·have h5' := h5; rw [hu1] at h5'; simpa [List.append_assoc] using h5'
  ·have hv1 : (vs.take (vs.length - us.length)).length = vs.length - us.length := by simp
   have hv2 : (vs.drop (vs.length - us.length)).length = us.length := by simp; omega
   obtain ⟨i, p', us', vs', q', h1, h2, h3, h4, h5⟩ := ih vs.length (by omega) p (vs.drop (vs.length - us.length)) (vs.take (vs.length - us.length)) (us ++ q) (by omega) (by omega) (by omega) (by omega) (by simp; omega); refine ⟨i, p', us', vs', q', h1, h2, h3, by rw [h4]; simp [← List.append_assoc, List.take_append_drop], ?_⟩; have hsw := swapRange_ev p (vs.take (vs.length - us.length)) q us.length us (vs.drop (vs.length - us.length)) rfl hv2 (by omega); rw [show vs.take (vs.length - us.length) ++ (vs.drop (vs.length - us.length) ++ q) = vs ++ q by rw [← List.append_assoc, List.take_append_drop]] at hsw; refine Ev.step (g := fun k => (slices_swapRangeCmpFunc k (p ++ (us ++ (vs ++ q))) (p.length : Int) ((p.length + us.length + (vs.take (vs.length - us.length)).length : Nat) : Int) (us.length : Int)).bind fun t => slices_rotateCmpFunc_l0 (m : Int) k (us.length : Int) ((vs.take (vs.length - us.length)).length : Int) t) (fun k => ?_) (Ev.bind hsw ?_)
   ·rw [slices_rotateCmpFunc_l0, if_pos (by omega), if_neg (by omega), i64w (x := (m : Int) - _) (by omega), i64w (x := (m : Int) + _) (by omega), i64w (x := (m : Int) + _ - _) (by omega), i64w (x := (vs.length : Int) - _) (by omega), show (m : Int) - (us.length : Int) = (p.length : Int) by omega,
     show (m : Int) + (vs.length : Int) - (us.length : Int) = ((p.length + us.length + (vs.take (vs.length - us.length)).length : Nat) : Int) by omega, show (vs.length : Int) - (us.length : Int) = ((vs.take (vs.length - us.length)).length : Int) by omega]
   ·rw [hv2] at h5; exact h5
theorem rotate_ev (p us vs q : List T31) (hu : 0 < us.length) (hv : 0 < vs.length) (hl : p.length + us.length + vs.length + q.length < 1073741824) :
  Ev (fun k => slices_rotateCmpFunc k (p ++ (us ++ (vs ++ q))) (p.length : Int) ((p.length + us.length : Nat) : Int) ((p.length + us.length + vs.length : Nat) : Int)) (p ++ (vs ++ (us ++ q))) := by
 obtain ⟨i, p', us', vs', q', h1, h2, h3, h4, h5⟩ := rotate_l_ev (p.length + us.length) _ p us vs q rfl hu hv rfl hl; unfold slices_rotateCmpFunc; have e1 : IntKind.i64.wrap (((p.length + us.length : Nat) : Int) - (p.length : Int)) = (us.length : Int) := by rw [i64w (by omega)]; omega
 have e2 : IntKind.i64.wrap (((p.length + us.length + vs.length : Nat) : Int) - ((p.length + us.length : Nat) : Int)) = (vs.length : Int) := by rw [i64w (by omega)]; omega
 rw [e1, e2]; refine Ev.bind h5 (Ev.bind (b := p ++ (vs ++ (us ++ q))) ?_ (Ev.now _)); have e3 : IntKind.i64.wrap (((p.length + us.length : Nat) : Int) - (i : Int)) = (p'.length : Int) := by rw [i64w (by omega)]; omega
 have hll := congrArg List.length h4; simp only [List.length_append] at hll; have := swapRange_ev p' [] q' i us' vs' h1 h2 (by simp; omega); rw [show p'.length + i + ([] : List T31).length = p.length + us.length by simp; omega, List.nil_append, List.nil_append, h4] at this; simp only [e3]; exact this
theorem mid_i64 (a b : Nat) (h : a + b < 2147483648) : IntKind.i64.wrap (shrK .u64 (IntKind.u64.wrap (IntKind.i64.wrap ((a : Int) + (b : Int)))) 1) = (((a + b) / 2 : Nat) : Int) := by
 have e : shrK .u64 (((a + b : Nat) : Int)) 1 = (((a + b) / 2 : Nat) : Int) := by
  unfold shrK; rw [show min (1 : Int).toNat IntKind.u64.bits = 1 from rfl, Int.fdiv_eq_ediv_of_nonneg _ (by decide)]; rfl
 rw [i64w (x := (a : Int) + _) (by omega), u64w (by omega), show (a : Int) + (b : Int) = ((a + b : Nat) : Int) by omega, e, i64w (by omega)]
theorem halves {F : Nat → Int → Int → Option Int} (Q : Nat → Bool) (A E : Nat) (hAE : A ≤ E)
  (step : ∀ lo hi : Nat, A ≤ lo → lo < hi → hi ≤ E → ∀ k, F (k + 1) (lo : Int) (hi : Int) = if Q ((lo + hi) / 2) = true then F k (((lo + hi) / 2 + 1 : Nat) : Int) (hi : Int) else F k (lo : Int) (((lo + hi) / 2 : Nat) : Int))
  (stop : ∀ lo : Nat, A ≤ lo → lo ≤ E → ∀ k, F (k + 1) (lo : Int) (lo : Int) = some (lo : Int)) :
  ∃ s : Nat, A ≤ s ∧ s ≤ E ∧ (s = A ∨ Q (s - 1) = true) ∧ (s = E ∨ Q s = false) ∧ Ev (fun k => F k (A : Int) (E : Int)) (s : Int) := by
 have key : ∀ n lo hi : Nat, hi - lo = n → A ≤ lo → lo ≤ hi → hi ≤ E → (lo = A ∨ Q (lo - 1) = true) → (hi = E ∨ Q hi = false) →
   ∃ s : Nat, A ≤ s ∧ s ≤ E ∧ (s = A ∨ Q (s - 1) = true) ∧ (s = E ∨ Q s = false) ∧ Ev (fun k => F k (lo : Int) (hi : Int)) (s : Int) := by
  intro n
  induction n using Nat.strongRecOn with
  | ind n ih =>
   intro lo hi hn h1 h2 h3 h4 h5; by_cases e : lo = hi
   ·subst e; exact ⟨lo, h1, h3, h4, h5, Ev.step (g := fun _ => some (lo : Int)) (fun k => stop lo h1 h3 k) (Ev.now _)⟩
   ·cases hq : Q ((lo + hi) / 2)
    ·obtain ⟨s, g1, g2, g3, g4, g5⟩ := ih ((lo + hi) / 2 - lo) (by omega) lo ((lo + hi) / 2) rfl h1 (by omega) (by omega) h4 (.inr hq); exact ⟨s, g1, g2, g3, g4, Ev.step (fun k => by rw [step lo hi h1 (by omega) h3, hq]; rfl) g5⟩
    ·obtain ⟨s, g1, g2, g3, g4, g5⟩ := ih (hi - ((lo + hi) / 2 + 1)) (by omega) ((lo + hi) / 2 + 1) hi rfl (by omega) (by omega) h3 (.inr (by simpa using hq)) h5; exact ⟨s, g1, g2, g3, g4, Ev.step (fun k => by rw [step lo hi h1 (by omega) h3, hq]; rfl) g5⟩
 exact key (E - A) A E rfl (Nat.le_refl _) hAE (Nat.le_refl _) (.inl rfl) (.inl rfl)
theorem right_ev (x : T31) (rest : List T31) : ∀ (us p : List T31), p.length + 1 + us.length + rest.length < 1073741824 →
  Ev (fun k => slices_symMergeCmpFunc_l1 ((p.length + 1 + us.length : Nat) : Int) k (p.length : Int) (p ++ x :: (us ++ rest))) (p ++ (us ++ x :: rest)) := by
 intro us
 induction us with
 | nil =>
  intro p hl; simp only [List.length_nil] at hl; refine Ev.step (g := fun _ => some (p ++ x :: rest)) (fun k => ?_) (Ev.now _); rw [slices_symMergeCmpFunc_l1, if_neg (by rw [i64w (by simp; omega)]; simp)]; rfl
 | cons u us ih =>
  intro p hl; simp only [List.length_cons] at hl; have := ih (p ++ [u]) (by simp; omega); rw [show (p ++ [u]).length + 1 + us.length = p.length + 1 + (u :: us).length by simp; omega, show (p ++ [u]) ++ (us ++ x :: rest) = p ++ ((u :: us) ++ x :: rest) by simp] at this; refine Ev.step (fun k => ?_) this; have e1 : IntKind.i64.wrap ((p.length : Int) + 1) = ((p.length + 1 : Nat) : Int) := by rw [i64w (by omega)]; omega
  rw [slices_symMergeCmpFunc_l1, e1, if_pos (by rw [i64w (by simp; omega)]; simp; omega), if_pos (by simp; omega), if_pos (by simp; omega), if_pos (by simp; omega), if_pos (by simp; omega)]; simp only [Int.toNat_natCast]; have key := swp_mid z31 p [] (us ++ rest) x u; simp only [List.length_nil, Nat.add_zero, List.nil_append] at key; unfold swp at key; rw [show p ++ x :: (u :: us ++ rest) = p ++ x :: u :: (us ++ rest) by simp, key]; simp
theorem left_ev (x : T31) (p : List T31) : ∀ (n : Nat) (us rest : List T31), us.length = n → p.length + us.length + 1 + rest.length < 1073741824 →
  Ev (fun k => slices_symMergeCmpFunc_l3 (p.length : Int) k ((p.length + us.length : Nat) : Int) (p ++ (us ++ x :: rest))) (p ++ (x :: (us ++ rest))) := by
 intro n
 induction n with
 | zero =>
  intro us rest hn hl; have : us = [] := List.eq_nil_of_length_eq_zero hn; subst this; refine Ev.step (g := fun _ => some (p ++ x :: rest)) (fun k => ?_) (Ev.now _); rw [slices_symMergeCmpFunc_l3, if_neg (by simp)]; rfl
 | succ n ih =>
  intro us rest hn hl; obtain ⟨us', u, rfl⟩ : ∃ us' u, us = us' ++ [u] := ⟨us.dropLast, us.getLast (by intro h; rw [h] at hn; simp at hn), (List.dropLast_concat_getLast _).symm⟩; simp only [List.length_append, List.length_singleton] at hn hl; have := ih us' (u :: rest) (by omega) (by simp; omega); rw [show p ++ x :: (us' ++ u :: rest) = p ++ x :: ((us' ++ [u]) ++ rest) by simp] at this; refine Ev.step (fun k => ?_) this; have e1 : IntKind.i64.wrap (((p.length + (us' ++ [u]).length : Nat) : Int) - 1) = ((p.length + us'.length : Nat) : Int) := by rw [i64w (by simp; omega)]; simp; omega
  rw [slices_symMergeCmpFunc_l3, e1, if_pos (by simp; omega), if_pos (by simp; omega), if_pos (by simp; omega), if_pos (by simp; omega), if_pos (by simp; omega)]; simp only [Int.toNat_natCast]; have key := swp_mid' z31 (p ++ us') [] rest u x; simp only [List.length_nil, Nat.add_zero, List.nil_append, List.length_append] at key; unfold swp at key; rw [show p ++ (us' ++ [u] ++ x :: rest) = p ++ us' ++ u :: x :: rest by simp, show p.length + (us' ++ [u]).length = p.length + us'.length + 1 by simp; omega, key]; simp
theorem ord_lt {a b : T31} {o : Int} (h : record_order a b = some o) : decide (o < 0) = ltr a b := by
 obtain ⟨o', h1, h2⟩ := order_some a b; rw [h1] at h; cases h
 cases e : ltr a b
 ·exact decide_eq_false fun hc => by rw [h2.1 hc] at e; cases e
 ·exact decide_eq_true (h2.2 e)
def smTail (k : Nat) (l0 : List T31) (a1 a2 a3 v65 s72 v88 : Int) : Option (List T31) :=
 ((if s72 < a2 then some (decide (a2 < v88)) else some false).bind fun s90 => (if s90 = true then ((slices_rotateCmpFunc k l0 s72 a2 v88).bind fun t94 => ((if a1 < s72 then some (decide (s72 < v65)) else some false).bind fun s98 => (if s98 = true then (((slices_symMergeCmpFunc k) t94 a1 s72 v65).bind fun t102 => ((if v65 < v88 then some (decide (v88 < a3)) else some false).bind fun s106 => (if s106 = true then (((slices_symMergeCmpFunc k) t102 v65 v88 a3).bind fun t110 => some t110) else some t102))) else ((if v65 < v88 then some (decide (v88 < a3)) else some false).bind fun s114 => (if s114 = true then (((slices_symMergeCmpFunc k) t94 v65 v88 a3).bind fun t118 => some t118) else some t94))))) else ((if a1 < s72 then some (decide (s72 < v65)) else some false).bind fun s122 => (if s122 = true then (((slices_symMergeCmpFunc k) l0 a1 s72 v65).bind fun t126 => ((if v65 < v88 then some (decide (v88 < a3)) else some false).bind fun s130 => (if s130 = true then (((slices_symMergeCmpFunc k) t126 v65 v88 a3).bind fun t134 => some t134) else some t126))) else ((if v65 < v88 then some (decide (v88 < a3)) else some false).bind fun s138 => (if s138 = true then (((slices_symMergeCmpFunc k) l0 v65 v88 a3).bind fun t142 => some t142) else some l0))))))
theorem symMerge_step (k : Nat) (l0 : List T31) (a1 a2 a3 : Int) : slices_symMergeCmpFunc (k + 1) l0 a1 a2 a3 =
  (if (IntKind.i64.wrap (a2 - a1)) = 1 then ((slices_symMergeCmpFunc_l0 l0 a1 k a2 a3).bind fun s2 => ((slices_symMergeCmpFunc_l1 s2 k a1 l0).bind fun s18 => some s18)) else (if (IntKind.i64.wrap (a3 - a2)) = 1 then ((slices_symMergeCmpFunc_l2 l0 a2 k a1 a2).bind fun s34 => ((slices_symMergeCmpFunc_l3 s34 k a2 l0).bind fun s50 => some s50)) else ((some (IntKind.i64.wrap (shrK .u64 (IntKind.u64.wrap (IntKind.i64.wrap (a1 + a3))) 1))).bind fun v65 => (if a2 > v65 then ((some (IntKind.i64.wrap ((IntKind.i64.wrap (v65 + a2)) - a3))).bind fun v68 => ((some (IntKind.i64.wrap ((IntKind.i64.wrap (v65 + a2)) - 1))).bind fun v70 => ((slices_symMergeCmpFunc_l4 l0 v70 k v68 v65).bind fun s72 => ((some (IntKind.i64.wrap ((IntKind.i64.wrap (v65 + a2)) - s72))).bind fun v88 => smTail k l0 a1 a2 a3 v65 s72 v88)))) else ((some (IntKind.i64.wrap ((IntKind.i64.wrap (v65 + a2)) - 1))).bind fun v146 => ((slices_symMergeCmpFunc_l5 l0 v146 k a1 a2).bind fun s148 => ((some (IntKind.i64.wrap ((IntKind.i64.wrap (v65 + a2)) - s148))).bind fun v164 => smTail k l0 a1 a2 a3 v65 s148 v164))))))) := by rfl
theorem l5_l4 (l0 : List T31) (v : Int) : ∀ k a b, slices_symMergeCmpFunc_l5 l0 v k a b = slices_symMergeCmpFunc_l4 l0 v k a b := by
 intro k
 induction k with
 | zero => intros; rfl
 | succ k ih => intro a b; rw [slices_symMergeCmpFunc_l5, slices_symMergeCmpFunc_l4]; simp only [ih]
theorem search_ev (l : List T31) (pc A E : Nat) (hAE : A ≤ E) (hE : E ≤ l.length) (hp : ∀ c, A ≤ c → c < E → c ≤ pc ∧ pc - c < l.length) (hl : l.length < 1073741824) (hpc : pc < 2147483648) :
  ∃ s : Nat, A ≤ s ∧ s ≤ E ∧ (s = A ∨ ltr (l.getD (pc - (s - 1)) z31) (l.getD (s - 1) z31) = false) ∧ (s = E ∨ ltr (l.getD (pc - s) z31) (l.getD s z31) = true) ∧
   Ev (fun k => slices_symMergeCmpFunc_l4 l (pc : Int) k (A : Int) (E : Int)) (s : Int) := by
 obtain ⟨s, h1, h2, h3, h4, h5⟩ := halves (F := fun k a b => slices_symMergeCmpFunc_l4 l (pc : Int) k a b) (fun c => !ltr (l.getD (pc - c) z31) (l.getD c z31)) A E hAE (fun lo hi g1 g2 g3 k => by
  have hm := hp ((lo + hi) / 2) (by omega) (by omega); have e1 : IntKind.i64.wrap ((pc : Int) - (((lo + hi) / 2 : Nat) : Int)) = ((pc - (lo + hi) / 2 : Nat) : Int) := by rw [i64w (by omega)]; omega
  have e2 : IntKind.i64.wrap ((((lo + hi) / 2 : Nat) : Int) + 1) = (((lo + hi) / 2 + 1 : Nat) : Int) := by rw [i64w (by omega)]; omega
  rw [slices_symMergeCmpFunc_l4, if_pos (by omega), mid_i64 lo hi (by omega)]; simp only [Option.bind_some, e1, e2, Int.toNat_natCast]; rw [if_pos (by omega), if_pos (by omega)]; obtain ⟨o, ho, _⟩ := order_some (l.getD (pc - (lo + hi) / 2) z31) (l.getD ((lo + hi) / 2) z31); rw [ho]; simp only [Option.bind_some, ord_lt ho]) (fun lo g1 g2 k => by rw [slices_symMergeCmpFunc_l4, if_neg (by omega)])
 refine ⟨s, h1, h2, h3.imp id (fun h => by simpa using h), h4.imp id (fun h => by simpa using h), h5⟩
theorem srt_getD {l : List T31} (h : Srt ltr l) {i j : Nat} (hij : i ≤ j) (hj : j < l.length) : ltr (l.getD j z31) (l.getD i z31) = false := by
 by_cases e : i = j
 ·subst e; exact ltr_swo.irr _
 ·have := List.pairwise_iff_getElem.1 h i j (by omega) hj (by omega); rw [getD_eq l z31 hj, getD_eq l z31 (by omega)]; exact this
theorem mem_take_getD {l : List T31} {n : Nat} {y : T31} (h : y ∈ l.take n) : ∃ i, i < n ∧ i < l.length ∧ y = l.getD i z31 := by
 obtain ⟨i, hi, e⟩ := List.mem_iff_getElem.1 h; have hl : i < n ∧ i < l.length := by rw [List.length_take] at hi; omega
 exact ⟨i, hl.1, hl.2, by rw [getD_eq l z31 hl.2, ← e, List.getElem_take]⟩
theorem mem_drop_getD {l : List T31} {n : Nat} {y : T31} (h : y ∈ l.drop n) : ∃ i, n ≤ i ∧ i < l.length ∧ y = l.getD i z31 := by
 obtain ⟨i, hi, e⟩ := List.mem_iff_getElem.1 h; rw [List.length_drop] at hi; exact ⟨n + i, by omega, by omega, by rw [getD_eq l z31 (by omega), ← e, List.getElem_drop]⟩
theorem at1 (p s1 s2 q : List T31) {i : Nat} (h : i < s1.length) : (p ++ (s1 ++ (s2 ++ q))).getD (p.length + i) z31 = s1.getD i z31 := by
 rw [getD_app_right, getD_app_left _ _ _ h]
theorem at2 (p s1 s2 q : List T31) {i : Nat} (h : i < s2.length) : (p ++ (s1 ++ (s2 ++ q))).getD (p.length + s1.length + i) z31 = s2.getD i z31 := by
 rw [Nat.add_assoc, getD_app_right, getD_app_right, getD_app_left _ _ _ h]
def smTail2 (k : Nat) (l : List T31) (a1 s72 v65 v88 a3 : Int) : Option (List T31) :=
 ((if a1 < s72 then some (decide (s72 < v65)) else some false).bind fun s98 => (if s98 = true then (((slices_symMergeCmpFunc k) l a1 s72 v65).bind fun t102 => ((if v65 < v88 then some (decide (v88 < a3)) else some false).bind fun s106 => (if s106 = true then (((slices_symMergeCmpFunc k) t102 v65 v88 a3).bind fun t110 => some t110) else some t102))) else ((if v65 < v88 then some (decide (v88 < a3)) else some false).bind fun s114 => (if s114 = true then (((slices_symMergeCmpFunc k) l v65 v88 a3).bind fun t118 => some t118) else some l))))
theorem smTail_eq (k : Nat) (l0 : List T31) (a1 a2 a3 v65 s72 v88 : Int) : smTail k l0 a1 a2 a3 v65 s72 v88 =
  ((if s72 < a2 then some (decide (a2 < v88)) else some false).bind fun s90 => (if s90 = true then ((slices_rotateCmpFunc k l0 s72 a2 v88).bind fun t94 => smTail2 k t94 a1 s72 v65 v88 a3) else smTail2 k l0 a1 s72 v65 v88 a3)) := rfl
def Merges (s1 s2 t : List T31) : Prop := 0 < s1.length ∧ 0 < s2.length ∧ ∀ p q : List T31, p.length + s1.length + s2.length + q.length < 1073741824 →
 Ev (fun k => slices_symMergeCmpFunc k (p ++ (s1 ++ (s2 ++ q))) (p.length : Int) ((p.length + s1.length : Nat) : Int) ((p.length + s1.length + s2.length : Nat) : Int)) (p ++ (t ++ q))
def Merged (s1 s2 t : List T31) : Prop := Merges s1 s2 t ∨ ((s1.length = 0 ∨ s2.length = 0) ∧ t = s1 ++ s2)
theorem and_dec (P Q : Prop) [Decidable P] [Decidable Q] : (if P then some (decide Q) else some false) = some (decide (P ∧ Q)) := by
 by_cases h : P <;> simp [h]
theorem tail2_ev (p q us ws vs zs t1 t2 : List T31) (h1 : Merged us ws t1) (h2 : Merged vs zs t2) (hl1 : t1.length = us.length + ws.length) (hl : p.length + us.length + ws.length + vs.length + zs.length + q.length < 1073741824) :
  Ev (fun k => smTail2 k (p ++ (us ++ (ws ++ (vs ++ (zs ++ q))))) (p.length : Int) ((p.length + us.length : Nat) : Int) ((p.length + us.length + ws.length : Nat) : Int) ((p.length + us.length + ws.length + vs.length : Nat) : Int) ((p.length + us.length + ws.length + vs.length + zs.length : Nat) : Int)) (p ++ (t1 ++ (t2 ++ q))) := by
 unfold smTail2; simp only [and_dec, Option.bind_some, decide_eq_true_eq]; have part2 : ∀ l, l = p ++ (t1 ++ (vs ++ (zs ++ q))) → Ev (fun k => if ((p.length + us.length + ws.length : Nat) : Int) < ((p.length + us.length + ws.length + vs.length : Nat) : Int) ∧ ((p.length + us.length + ws.length + vs.length : Nat) : Int) < ((p.length + us.length + ws.length + vs.length + zs.length : Nat) : Int) then (slices_symMergeCmpFunc k l ((p.length + us.length + ws.length : Nat) : Int) ((p.length + us.length + ws.length + vs.length : Nat) : Int) ((p.length + us.length + ws.length + vs.length + zs.length : Nat) : Int)).bind fun t110 => some t110 else some l) (p ++ (t1 ++ (t2 ++ q))) := by
  intro l hl'; subst hl'; rcases h2 with ⟨g1, g2, g3⟩ | ⟨g1, rfl⟩
  ·refine Ev.pos (by omega) (Ev.bind ?_ (Ev.now _)); have := g3 (p ++ t1) q (by simp; omega); simp only [List.length_append, hl1, List.append_assoc, ← Nat.add_assoc] at this; exact this
  ·refine Ev.neg (by omega) ((Ev.now _).is (by simp))
 rcases h1 with ⟨g1, g2, g3⟩ | ⟨g1, rfl⟩
 ·refine Ev.pos (by omega) (Ev.bind (g3 p (vs ++ (zs ++ q)) (by simp; omega)) ?_); exact part2 _ rfl
 ·refine Ev.neg (by omega) (part2 _ (by simp))
theorem tail_ev (p q us vs ws zs t1 t2 : List T31) (h1 : Merged us ws t1) (h2 : Merged vs zs t2) (hl1 : t1.length = us.length + ws.length) (hl : p.length + us.length + ws.length + vs.length + zs.length + q.length < 1073741824) :
  Ev (fun k => smTail k (p ++ (us ++ (vs ++ (ws ++ (zs ++ q))))) (p.length : Int) ((p.length + us.length + vs.length : Nat) : Int) ((p.length + us.length + ws.length + vs.length + zs.length : Nat) : Int) ((p.length + us.length + ws.length : Nat) : Int) ((p.length + us.length : Nat) : Int) ((p.length + us.length + ws.length + vs.length : Nat) : Int)) (p ++ (t1 ++ (t2 ++ q))) := by
 simp only [smTail_eq, and_dec, Option.bind_some, decide_eq_true_eq]; have h := tail2_ev p q us ws vs zs t1 t2 h1 h2 hl1 hl; refine Ev.ite (fun hc => ?_) (fun hc => ?_)
 ·have hr := rotate_ev (p ++ us) vs ws (zs ++ q) (by omega) (by omega) (by simp; omega); simp only [List.length_append, List.append_assoc] at hr; rw [show p.length + us.length + vs.length + ws.length = p.length + us.length + ws.length + vs.length by omega] at hr; exact Ev.bind hr h
 ·have e : vs = [] ∨ ws = [] := by
   by_cases e : vs.length = 0
   ·exact .inl (List.eq_nil_of_length_eq_zero e)
   ·exact .inr (List.eq_nil_of_length_eq_zero (by omega))
  have e2 : p ++ (us ++ (vs ++ (ws ++ (zs ++ q)))) = p ++ (us ++ (ws ++ (vs ++ (zs ++ q)))) := by rcases e with rfl | rfl <;> simp
  rw [e2]; exact h
theorem SE.length {xs ys : List T31} (h : SE ltr xs ys) : xs.length = ys.length := by
 have key : ∀ (n : Nat) (xs ys : List T31), xs.length = n → SE ltr xs ys → xs.length = ys.length := by
  intro n
  induction n using Nat.strongRecOn with
  | ind n ih =>
   intro xs ys hn h
   cases xs with
   | nil => cases ys with
    | nil => rfl
    | cons y ys => have := SE.mem ltr_swo h.symm (x := y) (by simp); cases this
   | cons x xs =>
    have hsplit : ∀ l : List T31, l.length = (l.filter (eqv ltr x)).length + (l.filter fun y => !eqv ltr x y).length := fun l => by
     induction l with
     | nil => rfl
     | cons a l ih => cases e : eqv ltr x a <;> simp [List.filter_cons, e] <;> omega
    have hx := h x; have h2 : SE ltr ((x :: xs).filter fun y => !eqv ltr x y) (ys.filter fun y => !eqv ltr x y) := fun z => by
     rw [List.filter_filter, List.filter_filter]; have := congrArg (List.filter fun y => !eqv ltr x y) (h z); rw [List.filter_filter, List.filter_filter] at this; simp only [Bool.and_comm] at this ⊢; exact this
    have hlt : ((x :: xs).filter fun y => !eqv ltr x y).length < n := by
     have := hsplit (x :: xs); have h3 : 0 < ((x :: xs).filter (eqv ltr x)).length := by rw [List.filter_cons_of_pos (ltr_swo.eqv_refl x)]; simp
     omega
    have := ih _ hlt _ _ rfl h2; rw [hsplit (x :: xs), hsplit ys, this, hx]
 exact key _ xs ys rfl h
theorem Merges.of {s1 s2 : List T31} (h1 : 0 < s1.length) (h2 : 0 < s2.length) (hb : s1.length + s2.length < 1073741824)
  (h : ∀ p q : List T31, p.length + s1.length + s2.length + q.length < 1073741824 → ∃ t, Srt ltr t ∧ SE ltr (s1 ++ s2) t ∧
   Ev (fun k => slices_symMergeCmpFunc k (p ++ (s1 ++ (s2 ++ q))) (p.length : Int) ((p.length + s1.length : Nat) : Int) ((p.length + s1.length + s2.length : Nat) : Int)) (p ++ (t ++ q))) :
  ∃ t, Srt ltr t ∧ SE ltr (s1 ++ s2) t ∧ Merges s1 s2 t := by
 obtain ⟨t, a, b, _⟩ := h [] [] (by simpa using hb); refine ⟨t, a, b, h1, h2, fun p q hl => ?_⟩; obtain ⟨t', a', b', c'⟩ := h p q hl; rw [Srt.uniq ltr_swo a a' (b.symm.trans b')]; exact c'
theorem Merged.of {s1 s2 : List T31} (h1 : Srt ltr s1) (h2 : Srt ltr s2) (h : 0 < s1.length → 0 < s2.length → ∃ t, Srt ltr t ∧ SE ltr (s1 ++ s2) t ∧ Merges s1 s2 t) : ∃ t, Srt ltr t ∧ SE ltr (s1 ++ s2) t ∧ Merged s1 s2 t := by
 by_cases e : 0 < s1.length ∧ 0 < s2.length
 ·obtain ⟨t, a, b, c⟩ := h e.1 e.2; exact ⟨t, a, b, .inl c⟩
 ·refine ⟨s1 ++ s2, ?_, SE.refl _, .inr ⟨by omega, rfl⟩⟩; by_cases e1 : s1.length = 0
  ·rw [List.eq_nil_of_length_eq_zero e1]; exact h2
  ·rw [List.eq_nil_of_length_eq_zero (l := s2) (by omega), List.append_nil]; exact h1
theorem symMerge_ev : ∀ (n : Nat) (s1 s2 : List T31), s1.length + s2.length = n → 0 < s1.length → 0 < s2.length → n < 1073741824 → Srt ltr s1 → Srt ltr s2 → ∃ t, Srt ltr t ∧ SE ltr (s1 ++ s2) t ∧ Merges s1 s2 t := by
 intro n
 induction n using Nat.strongRecOn with
 | ind n ih =>
  intro s1 s2 hn hp1 hp2 hbn hs1 hs2; by_cases c1 : s1.length = 1
  ·-- one to the left
   obtain ⟨x, rfl⟩ := List.length_eq_one_iff.1 c1; obtain ⟨s, hsl, hleft, hright⟩ : ∃ s : Nat, s ≤ s2.length ∧ (s = 0 ∨ ltr (s2.getD (s - 1) z31) x = true) ∧ (s = s2.length ∨ ltr (s2.getD s z31) x = false) := by
    have key : ∀ m : Nat, m ≤ s2.length → ∃ s : Nat, s ≤ m ∧ (s = 0 ∨ ltr (s2.getD (s - 1) z31) x = true) ∧ (s = m ∨ ltr (s2.getD s z31) x = false) := by
     intro m
     induction m with
     | zero => intro _; exact ⟨0, Nat.le_refl _, .inl rfl, .inl rfl⟩
     | succ m ihm =>
      intro hm; obtain ⟨s, g1, g2, g3⟩ := ihm (by omega); rcases g3 with rfl | g3
      ·cases e : ltr (s2.getD s z31) x
       ·exact ⟨s, by omega, g2, .inr e⟩
       ·exact ⟨s + 1, by omega, .inr (by simpa using e), .inl rfl⟩
      ·exact ⟨s, by omega, g2, .inr g3⟩
    exact key _ (Nat.le_refl _)
   have hu : ∀ y ∈ s2.take s, ltr y x = true := fun y hy => by
    obtain ⟨i, h1, h2, rfl⟩ := mem_take_getD hy; rcases hleft with h | h
    ·omega
    ·rcases ltr_swo.neg _ _ (s2.getD i z31) h with h3 | h3
     ·rw [srt_getD hs2 (by omega) (by omega)] at h3; cases h3
     ·exact h3
   have hv : ∀ y ∈ s2.drop s, ltr y x = false := fun y hy => by
    obtain ⟨i, h1, h2, rfl⟩ := mem_drop_getD hy; rcases hright with h | h
    ·omega
    ·exact ltr_swo.ntr h (srt_getD hs2 h1 h2)
   refine ⟨s2.take s ++ x :: s2.drop s, ?_, ?_, hp1, hp2, fun p q hl => ?_⟩
   ·refine Srt.append (hs2.sub (List.take_sublist _ _)) (List.pairwise_cons.2 ⟨fun y hy => hv y hy, hs2.sub (List.drop_sublist _ _)⟩) fun y hy z hz => ?_
    rcases List.mem_cons.1 hz with rfl | hz
    ·exact ltr_swo.asym (hu y hy)
    ·have := hs2; rw [← List.take_append_drop s s2] at this; exact (List.pairwise_append.1 this).2.2 y hy z hz
   ·have h1 : SE ltr ([x] ++ s2.take s) (s2.take s ++ [x]) := SE.swap ltr_swo fun a ha y hy => by simp at ha; subst ha; exact hu y hy
    have := h1.append (SE.refl (s2.drop s)); rw [List.append_assoc, List.take_append_drop] at this; simpa using this
   ·simp only [List.length_singleton] at hl ⊢; refine Ev.step (fun k => by rw [symMerge_step, if_pos (by rw [i64w (by omega)]; omega)]) ?_; have hat : (p ++ ([x] ++ (s2 ++ q))).getD p.length z31 = x := by have := at1 p [x] s2 q (i := 0) (by simp); exact this
    obtain ⟨s', h1, h2, h3, h4, h5⟩ := halves (F := fun k a b => slices_symMergeCmpFunc_l0 (p ++ ([x] ++ (s2 ++ q))) (p.length : Int) k a b) (fun c => ltr ((p ++ ([x] ++ (s2 ++ q))).getD c z31) x) (p.length + 1) (p.length + 1 + s2.length) (by omega) (fun lo hi g1 g2 g3 k => by
     have e2 : IntKind.i64.wrap ((((lo + hi) / 2 : Nat) : Int) + 1) = (((lo + hi) / 2 + 1 : Nat) : Int) := by rw [i64w (by omega)]; omega
     rw [slices_symMergeCmpFunc_l0, if_pos (by omega), mid_i64 lo hi (by omega)]; simp only [Option.bind_some, e2, Int.toNat_natCast]; rw [if_pos (by simp; omega), if_pos (by simp; omega), hat]; obtain ⟨o, ho, hol⟩ := order_some ((p ++ ([x] ++ (s2 ++ q))).getD ((lo + hi) / 2) z31) x; rw [ho]; simp only [Option.bind_some]; by_cases hc : o < 0
     ·rw [if_pos hc, hol.1 hc]; rfl
     ·rw [if_neg hc, if_neg (fun h => hc (hol.2 h))]) (fun lo g1 g2 k => by rw [slices_symMergeCmpFunc_l0, if_neg (by omega)])
    have hatj : ∀ j, j < s2.length → (p ++ ([x] ++ (s2 ++ q))).getD (p.length + 1 + j) z31 = s2.getD j z31 := fun j hj => at2 p [x] s2 q hj
    have hss : s' = p.length + 1 + s := by
     rcases Nat.lt_trichotomy s' (p.length + 1 + s) with hlt | heq | hgt
     ·rcases h4 with h4 | h4
      ·omega
      ·have := hu (s2.getD (s' - (p.length + 1)) z31) (by rw [getD_eq s2 z31 (by omega)]; exact List.mem_take_iff_getElem.2 ⟨s' - (p.length + 1), by omega, rfl⟩); rw [← hatj (s' - (p.length + 1)) (by omega), show p.length + 1 + (s' - (p.length + 1)) = s' by omega, h4] at this; cases this
     ·exact heq
     ·rcases h3 with h3 | h3
      ·omega
      ·have := hv (s2.getD (s' - 1 - (p.length + 1)) z31) (by
        rw [getD_eq s2 z31 (by omega)]; refine List.mem_drop_iff_getElem.2 ⟨s' - 1 - (p.length + 1) - s, by omega, ?_⟩
        congr 1; omega)
       rw [← hatj (s' - 1 - (p.length + 1)) (by omega), show p.length + 1 + (s' - 1 - (p.length + 1)) = s' - 1 by omega, h3] at this; cases this
    subst hss; refine Ev.bind h5 (Ev.bind ?_ (Ev.now _)); have hr := right_ev x (s2.drop s ++ q) (s2.take s) p (by simp; omega); rw [show (s2.take s).length = s by simp; omega, show p ++ x :: (s2.take s ++ (s2.drop s ++ q)) = p ++ ([x] ++ (s2 ++ q)) by rw [← List.append_assoc (s2.take s), List.take_append_drop]; rfl] at hr; rw [show p ++ (s2.take s ++ x :: s2.drop s ++ q) = p ++ (s2.take s ++ x :: (s2.drop s ++ q)) by simp]; exact hr
  by_cases c2 : s2.length = 1
  ·-- one to the right
   obtain ⟨x, rfl⟩ := List.length_eq_one_iff.1 c2; refine (?_ : ∃ s : Nat, s ≤ s1.length ∧ (s = 0 ∨ ltr x (s1.getD (s - 1) z31) = false) ∧ (s = s1.length ∨ ltr x (s1.getD s z31) = true)).elim fun s hs => ?_
   ·have key : ∀ m : Nat, m ≤ s1.length → ∃ s : Nat, s ≤ m ∧ (s = 0 ∨ ltr x (s1.getD (s - 1) z31) = false) ∧ (s = m ∨ ltr x (s1.getD s z31) = true) := by
     intro m
     induction m with
     | zero => intro _; exact ⟨0, Nat.le_refl _, .inl rfl, .inl rfl⟩
     | succ m ihm =>
      intro hm; obtain ⟨s, g1, g2, g3⟩ := ihm (by omega); rcases g3 with rfl | g3
      ·cases e : ltr x (s1.getD s z31)
       ·exact ⟨s + 1, by omega, .inr (by simpa using e), .inl rfl⟩
       ·exact ⟨s, by omega, g2, .inr e⟩
      ·exact ⟨s, by omega, g2, .inr g3⟩
    exact key _ (Nat.le_refl _)
   obtain ⟨hsl, hleft, hright⟩ := hs; have hu : ∀ y ∈ s1.take s, ltr x y = false := fun y hy => by
    obtain ⟨i, h1, h2, rfl⟩ := mem_take_getD hy; rcases hleft with h | h
    ·omega
    ·exact ltr_swo.ntr (srt_getD hs1 (i := i) (j := s - 1) (by omega) (by omega)) h
   have hv : ∀ y ∈ s1.drop s, ltr x y = true := fun y hy => by
    obtain ⟨i, h1, h2, rfl⟩ := mem_drop_getD hy; rcases hright with h | h
    ·omega
    ·rcases ltr_swo.neg _ _ (s1.getD i z31) h with h3 | h3
     ·exact h3
     ·rw [srt_getD hs1 h1 h2] at h3; cases h3
   refine ⟨s1.take s ++ x :: s1.drop s, ?_, ?_, hp1, hp2, fun p q hl => ?_⟩
   ·refine Srt.append (hs1.sub (List.take_sublist _ _)) (List.pairwise_cons.2 ⟨fun y hy => ltr_swo.asym (hv y hy), hs1.sub (List.drop_sublist _ _)⟩) fun y hy z hz => ?_
    rcases List.mem_cons.1 hz with rfl | hz
    ·exact hu y hy
    ·have := hs1; rw [← List.take_append_drop s s1] at this; exact (List.pairwise_append.1 this).2.2 y hy z hz
   ·have h1 : SE ltr (s1.drop s ++ [x]) ([x] ++ s1.drop s) := SE.swap ltr_swo fun a ha y hy => by simp at hy; subst hy; exact hv a ha
    have := (SE.refl (s1.take s)).append h1; rw [← List.append_assoc, List.take_append_drop] at this; simpa using this
   ·simp only [List.length_singleton] at hl ⊢; refine Ev.step (fun k => by rw [symMerge_step, if_neg (by rw [i64w (by omega)]; omega), if_pos (by rw [i64w (by omega)]; omega)]) ?_; have hat : (p ++ (s1 ++ ([x] ++ q))).getD (p.length + s1.length) z31 = x := by have := at2 p s1 [x] q (i := 0) (by simp); exact this
    obtain ⟨s', h1, h2, h3, h4, h5⟩ := halves (F := fun k a b => slices_symMergeCmpFunc_l2 (p ++ (s1 ++ ([x] ++ q))) ((p.length + s1.length : Nat) : Int) k a b) (fun c => !ltr x ((p ++ (s1 ++ ([x] ++ q))).getD c z31)) p.length (p.length + s1.length) (by omega) (fun lo hi g1 g2 g3 k => by
     have e2 : IntKind.i64.wrap ((((lo + hi) / 2 : Nat) : Int) + 1) = (((lo + hi) / 2 + 1 : Nat) : Int) := by rw [i64w (by omega)]; omega
     rw [slices_symMergeCmpFunc_l2, if_pos (by omega), mid_i64 lo hi (by omega)]; simp only [Option.bind_some, e2, Int.toNat_natCast]; rw [if_pos (by simp; omega), if_pos (by simp; omega), hat]; obtain ⟨o, ho, hol⟩ := order_some x ((p ++ (s1 ++ ([x] ++ q))).getD ((lo + hi) / 2) z31); rw [ho]; simp only [Option.bind_some, ord_lt ho]) (fun lo g1 g2 k => by rw [slices_symMergeCmpFunc_l2, if_neg (by omega)])
    have hatj : ∀ j, j < s1.length → (p ++ (s1 ++ ([x] ++ q))).getD (p.length + j) z31 = s1.getD j z31 := fun j hj => at1 p s1 [x] q hj
    have hss : s' = p.length + s := by
     rcases Nat.lt_trichotomy s' (p.length + s) with hlt | heq | hgt
     ·rcases h4 with h4 | h4
      ·omega
      ·have := hu (s1.getD (s' - p.length) z31) (by rw [getD_eq s1 z31 (by omega)]; exact List.mem_take_iff_getElem.2 ⟨s' - p.length, by omega, rfl⟩); rw [← hatj (s' - p.length) (by omega), show p.length + (s' - p.length) = s' by omega] at this; rw [this] at h4; exact absurd h4 (by simp)
     ·exact heq
     ·rcases h3 with h3 | h3
      ·omega
      ·have := hv (s1.getD (s' - 1 - p.length) z31) (by
        rw [getD_eq s1 z31 (by omega)]; refine List.mem_drop_iff_getElem.2 ⟨s' - 1 - p.length - s, by omega, ?_⟩
        congr 1; omega)
       rw [← hatj (s' - 1 - p.length) (by omega), show p.length + (s' - 1 - p.length) = s' - 1 by omega] at this; rw [this] at h3; exact absurd h3 (by simp)
    subst hss; refine Ev.bind h5 (Ev.bind ?_ (Ev.now _)); have hr := left_ev x (p ++ s1.take s) _ (s1.drop s) q rfl (by simp; omega); rw [show (p ++ s1.take s).length = p.length + s by simp; omega, show p.length + s + (s1.drop s).length = p.length + s1.length by simp; omega,
     show p ++ s1.take s ++ (s1.drop s ++ x :: q) = p ++ (s1 ++ ([x] ++ q)) by rw [List.append_assoc, ← List.append_assoc (s1.take s), List.take_append_drop]; rfl] at hr
    rw [show p ++ (s1.take s ++ x :: s1.drop s ++ q) = p ++ s1.take s ++ x :: (s1.drop s ++ q) by simp]; exact hr
  -- parts of both
  refine Merges.of hp1 hp2 (by omega) fun p q hl => ?_
  obtain ⟨h, hh⟩ : ∃ h, h = (s1.length + s2.length) / 2 := ⟨_, rfl⟩; have emid : IntKind.i64.wrap (shrK .u64 (IntKind.u64.wrap (IntKind.i64.wrap ((p.length : Int) + ((p.length + s1.length + s2.length : Nat) : Int)))) 1) = ((p.length + h : Nat) : Int) := by
   rw [mid_i64 _ _ (by omega)]; congr 1; omega
  have esum : IntKind.i64.wrap (((p.length + h : Nat) : Int) + ((p.length + s1.length : Nat) : Int)) = ((p.length + h + (p.length + s1.length) : Nat) : Int) := by rw [i64w (by omega)]; omega
  have epc : IntKind.i64.wrap (((p.length + h + (p.length + s1.length) : Nat) : Int) - 1) = ((p.length + h + (p.length + s1.length) - 1 : Nat) : Int) := by rw [i64w (by omega)]; omega
  obtain ⟨L, hL⟩ : ∃ L, L = p ++ (s1 ++ (s2 ++ q)) := ⟨_, rfl⟩; have hLl : L.length = p.length + s1.length + s2.length + q.length := by rw [hL]; simp; omega
  -- what the search finds
  have fin : ∀ (A E s : Nat), A ≤ s → s ≤ E → E ≤ s1.length → E ≤ h → s1.length ≤ h + s1.length - s → h + s1.length - s ≤ s1.length + s2.length →
    (s = A ∨ ltr (L.getD (p.length + h + (p.length + s1.length) - 1 - (p.length + s - 1)) z31) (L.getD (p.length + s - 1) z31) = false) →
    (s = E ∨ ltr (L.getD (p.length + h + (p.length + s1.length) - 1 - (p.length + s)) z31) (L.getD (p.length + s) z31) = true) →
    (s = A → A = 0 ∨ h + s1.length - s = s1.length + s2.length) → (s = E → E = s1.length ∨ h = s) →
    ∃ t, Srt ltr t ∧ SE ltr (s1 ++ s2) t ∧ Ev (fun k => smTail k L (p.length : Int) ((p.length + s1.length : Nat) : Int) ((p.length + s1.length + s2.length : Nat) : Int) ((p.length + h : Nat) : Int) ((p.length + s : Nat) : Int) ((p.length + h + s1.length - s : Nat) : Int)) (p ++ (t ++ q)) := by
   intro A E s g1 g2 g3 g4 g5 g6 g7 g8 g9 g10; have hwl : h - s ≤ s2.length := by omega
   obtain ⟨us, hus⟩ : ∃ us, us = s1.take s := ⟨_, rfl⟩; obtain ⟨vs, hvs⟩ : ∃ vs, vs = s1.drop s := ⟨_, rfl⟩; obtain ⟨ws, hws⟩ : ∃ ws, ws = s2.take (h - s) := ⟨_, rfl⟩; obtain ⟨zs, hzs⟩ : ∃ zs, zs = s2.drop (h - s) := ⟨_, rfl⟩; have lu : us.length = s := by rw [hus, List.length_take]; omega
   have lv : vs.length = s1.length - s := by rw [hvs, List.length_drop]
   have lw : ws.length = h - s := by rw [hws, List.length_take]; omega
   have lz : zs.length = s2.length - (h - s) := by rw [hzs, List.length_drop]
   have es1 : s1 = us ++ vs := by rw [hus, hvs, List.take_append_drop]
   have es2 : s2 = ws ++ zs := by rw [hws, hzs, List.take_append_drop]
   have hsu := hs1; rw [es1] at hsu; have hsw := hs2; rw [es2] at hsw; obtain ⟨su, sv, suv⟩ := List.pairwise_append.1 hsu; obtain ⟨sw, sz, swz⟩ := List.pairwise_append.1 hsw
   -- across
   have hvw : ∀ x ∈ vs, ∀ y ∈ ws, ltr y x = true := fun x hx y hy => by
    rw [hvs] at hx; rw [hws] at hy; obtain ⟨i, i1, i2, rfl⟩ := mem_drop_getD hx; obtain ⟨j, j1, j2, rfl⟩ := mem_take_getD hy; rcases g8 with g8 | g8
    ·rcases g10 g8 with e | e <;> omega
    ·rw [show p.length + h + (p.length + s1.length) - 1 - (p.length + s) = p.length + s1.length + (h - s - 1) by omega, hL, at2 p s1 s2 q (by omega), at1 p s1 s2 q (by omega)] at g8
     -- s2[j] ≤ s2[h-s-1] < s1[s] ≤ s1[i]
     have h1 := srt_getD hs2 (i := j) (j := h - s - 1) (by omega) (by omega); have h2 := srt_getD hs1 (i := s) (j := i) i1 i2; rcases ltr_swo.neg _ _ (s2.getD j z31) g8 with h3 | h3
     ·rw [h1] at h3; cases h3
     ·rcases ltr_swo.neg _ _ (s1.getD i z31) h3 with h4 | h4
      ·exact h4
      ·rw [h2] at h4; cases h4
   have huz : ∀ x ∈ us, ∀ y ∈ zs, ltr y x = false := fun x hx y hy => by
    rw [hus] at hx; rw [hzs] at hy; obtain ⟨i, i1, i2, rfl⟩ := mem_take_getD hx; obtain ⟨j, j1, j2, rfl⟩ := mem_drop_getD hy; rcases g7 with g7 | g7
    ·rcases g9 g7 with e | e <;> omega
    ·rw [show p.length + h + (p.length + s1.length) - 1 - (p.length + s - 1) = p.length + s1.length + (h - s) by omega, hL, at2 p s1 s2 q (by omega), show p.length + s - 1 = p.length + (s - 1) by omega, at1 p s1 s2 q (by omega)] at g7; have h1 := srt_getD hs2 (i := h - s) (j := j) j1 j2; have h2 := srt_getD hs1 (i := i) (j := s - 1) (by omega) (by omega); exact ltr_swo.ntr (ltr_swo.ntr h2 g7) h1
   obtain ⟨t1, m1, m2, m3⟩ := Merged.of su sw (fun a b => ih (us.length + ws.length) (by omega) us ws rfl a b (by omega) su sw); obtain ⟨t2, k1, k2, k3⟩ := Merged.of sv sz (fun a b => ih (vs.length + zs.length) (by omega) vs zs rfl a b (by omega) sv sz); have l1 := SE.length m2; rw [List.length_append] at l1; refine ⟨t1 ++ t2, Srt.append m1 k1 fun x hx y hy => ?_, ?_, ?_⟩
   ·have hx := SE.mem ltr_swo m2.symm hx; have hy := SE.mem ltr_swo k2.symm hy; rcases List.mem_append.1 hx with hx | hx <;> rcases List.mem_append.1 hy with hy | hy
    ·exact suv x hx y hy
    ·exact huz x hx y hy
    ·exact ltr_swo.asym (hvw y hy x hx)
    ·exact swz x hx y hy
   ·rw [es1, es2]; have h1 : SE ltr (us ++ (vs ++ ws) ++ zs) (us ++ (ws ++ vs) ++ zs) := ((SE.refl us).append (SE.swap ltr_swo hvw)).append (SE.refl zs); have h2 := m2.append k2; simp only [List.append_assoc] at h1 h2 ⊢; exact h1.trans h2
   ·have := tail_ev p q us vs ws zs t1 t2 m3 k3 l1.symm (by omega); rw [show p ++ (us ++ (vs ++ (ws ++ (zs ++ q)))) = L by rw [hL, es1, es2]; simp, lu, lv, lw, lz, show p.length + s + (s1.length - s) = p.length + s1.length by omega, show p.length + s + (h - s) = p.length + h by omega,
     show p.length + h + (s1.length - s) + (s2.length - (h - s)) = p.length + s1.length + s2.length by omega, show p.length + h + (s1.length - s) = p.length + h + s1.length - s by omega] at this
    rw [List.append_assoc]; exact this
  have eend : ∀ s : Nat, s ≤ s1.length → IntKind.i64.wrap (((p.length + h + (p.length + s1.length) : Nat) : Int) - ((p.length + s : Nat) : Int)) = ((p.length + h + s1.length - s : Nat) : Int) := fun s hs => by rw [i64w (by omega)]; omega
  by_cases c3 : h < s1.length
  ·obtain ⟨s, f1, f2, f3, f4, f5⟩ := search_ev L (p.length + h + (p.length + s1.length) - 1) (p.length + (h - s2.length)) (p.length + h) (by omega) (by omega) (fun c _ _ => by omega) (by omega) (by omega); obtain ⟨s, rfl⟩ : ∃ s0, s = p.length + s0 := ⟨s - p.length, by omega⟩; obtain ⟨t, r1, r2, r3⟩ := fin (h - s2.length) h s (by omega) (by omega) (by omega) (by omega) (by omega) (by omega) (f3.imp (by omega) id) (f4.imp (by omega) id) (fun e => by omega) (fun e => .inr e.symm); refine ⟨t, r1, r2, Ev.step (g := fun k => (slices_symMergeCmpFunc_l4 L ((p.length + h + (p.length + s1.length) - 1 : Nat) : Int) k ((p.length + (h - s2.length) : Nat) : Int) ((p.length + h : Nat) : Int)).bind fun s72 => ((some (IntKind.i64.wrap (((p.length + h + (p.length + s1.length) : Nat) : Int) - s72))).bind fun v88 => smTail k L (p.length : Int) ((p.length + s1.length : Nat) : Int) ((p.length + s1.length + s2.length : Nat) : Int) ((p.length + h : Nat) : Int) s72 v88)) (fun k => ?_) (Ev.bind f5 ?_)⟩
   ·rw [symMerge_step, if_neg (by rw [i64w (by omega)]; omega), if_neg (by rw [i64w (by omega)]; omega)]; simp only [emid, esum, epc, Option.bind_some]; rw [if_pos (by omega), ← hL, show IntKind.i64.wrap (((p.length + h + (p.length + s1.length) : Nat) : Int) - ((p.length + s1.length + s2.length : Nat) : Int)) = ((p.length + (h - s2.length) : Nat) : Int) by rw [i64w (by omega)]; omega]
   ·simp only [eend s (by omega), Option.bind_some]; exact r3
  ·obtain ⟨s, f1, f2, f3, f4, f5⟩ := search_ev L (p.length + h + (p.length + s1.length) - 1) p.length (p.length + s1.length) (by omega) (by omega) (fun c _ _ => by omega) (by omega) (by omega); obtain ⟨s, rfl⟩ : ∃ s0, s = p.length + s0 := ⟨s - p.length, by omega⟩; obtain ⟨t, r1, r2, r3⟩ := fin 0 s1.length s (by omega) (by omega) (by omega) (by omega) (by omega) (by omega) (f3.imp (by omega) id) (f4.imp (by omega) id) (fun e => .inl rfl) (fun e => .inl rfl); refine ⟨t, r1, r2, Ev.step (g := fun k => (slices_symMergeCmpFunc_l5 L ((p.length + h + (p.length + s1.length) - 1 : Nat) : Int) k (p.length : Int) ((p.length + s1.length : Nat) : Int)).bind fun s72 => ((some (IntKind.i64.wrap (((p.length + h + (p.length + s1.length) : Nat) : Int) - s72))).bind fun v88 => smTail k L (p.length : Int) ((p.length + s1.length : Nat) : Int) ((p.length + s1.length + s2.length : Nat) : Int) ((p.length + h : Nat) : Int) s72 v88)) (fun k => ?_) (Ev.bind (Ev.congr (fun k => l5_l4 L _ k _ _) f5) ?_)⟩
   ·rw [symMerge_step, if_neg (by rw [i64w (by omega)]; omega), if_neg (by rw [i64w (by omega)]; omega)]; simp only [emid, esum, epc, Option.bind_some]; rw [if_neg (by omega), ← hL]
   ·simp only [eend s (by omega), Option.bind_some]; exact r3
theorem insert_ev (x : T31) (p : List T31) : ∀ (n : Nat) (us rest : List T31), us.length = n → p.length + us.length + 1 + rest.length < 1073741824 →
  ∃ u1 u2, us = u1 ++ u2 ∧ (∀ y ∈ u2, ltr x y = true) ∧ (∀ u y, u1 = u ++ [y] → ltr x y = false) ∧
   Ev (fun k => slices_insertionSortCmpFunc_l1 (p.length : Int) k ((p.length + us.length : Nat) : Int) (p ++ (us ++ x :: rest))) (p ++ (u1 ++ x :: (u2 ++ rest))) := by
 intro n
 induction n with
 | zero =>
  intro us rest hn hl; have : us = [] := List.eq_nil_of_length_eq_zero hn; subst this; refine ⟨[], [], rfl, by simp, by simp, Ev.step (g := fun _ => some (p ++ x :: rest)) (fun k => ?_) (Ev.now _)⟩; rw [slices_insertionSortCmpFunc_l1, if_neg (by simp)]; rfl
 | succ n ih =>
  intro us rest hn hl; obtain ⟨us', u, rfl⟩ : ∃ us' u, us = us' ++ [u] := ⟨us.dropLast, us.getLast (by intro h; rw [h] at hn; simp at hn), (List.dropLast_concat_getLast _).symm⟩; simp only [List.length_append, List.length_singleton] at hn hl; have e1 : IntKind.i64.wrap (((p.length + (us' ++ [u]).length : Nat) : Int) - 1) = ((p.length + us'.length : Nat) : Int) := by rw [i64w (by simp; omega)]; simp; omega
  have eg : (p ++ (us' ++ [u] ++ x :: rest)).getD (p.length + (us' ++ [u]).length) z31 = x := by
   have := at2 p (us' ++ [u]) (x :: rest) [] (i := 0) (by simp); simp only [List.append_nil, Nat.add_zero] at this; exact this
  have eg2 : (p ++ (us' ++ [u] ++ x :: rest)).getD (p.length + us'.length) z31 = u := by
   have := at2 p us' [u] (x :: rest) (i := 0) (by simp); rw [List.append_assoc]; exact this
  obtain ⟨o, ho, hol⟩ := order_some x u; by_cases hlt : ltr x u = true
  ·obtain ⟨u1, u2, h1, h2, h3, h4⟩ := ih us' (u :: rest) (by omega) (by simp; omega); refine ⟨u1, u2 ++ [u], by rw [h1]; simp, fun y hy => ?_, h3, ?_⟩
   ·rcases List.mem_append.1 hy with hy | hy
    ·exact h2 y hy
    ·simp at hy; subst hy; exact hlt
   ·rw [show p ++ (u1 ++ x :: (u2 ++ [u] ++ rest)) = p ++ (u1 ++ x :: (u2 ++ u :: rest)) by simp]; refine Ev.step (fun k => ?_) h4; rw [slices_insertionSortCmpFunc_l1, e1, if_pos (by simp; omega), if_pos (by simp; omega), if_pos (by simp; omega)]; simp only [Int.toNat_natCast, eg, eg2, ho, Option.bind_some, decide_eq_true (hol.2 hlt), if_true]; rw [if_pos (by simp; omega), if_pos (by simp; omega), if_pos (by simp; omega), if_pos (by simp; omega)]; have key := swp_mid' z31 (p ++ us') [] rest u x; simp only [List.length_nil, Nat.add_zero, List.nil_append, List.length_append] at key; unfold swp at key; rw [show p ++ us' ++ u :: x :: rest = p ++ (us' ++ [u] ++ x :: rest) by simp] at key; simp only [List.length_append, List.length_singleton, ← Nat.add_assoc] at eg eg2 ⊢; rw [eg, eg2] at key; rw [key]; simp
  ·have hlt : ltr x u = false := by simpa using hlt
   refine ⟨us' ++ [u], [], by simp, by simp, fun w y h => ?_, ?_⟩
   ·have := List.append_inj_right' h (by simp); simp at this; subst this; exact hlt
   ·refine Ev.step (g := fun _ => some (p ++ (us' ++ [u] ++ x :: rest))) (fun k => ?_) (Ev.now _); rw [slices_insertionSortCmpFunc_l1, e1, if_pos (by simp; omega), if_pos (by simp; omega), if_pos (by simp; omega)]; have hno : ¬ o < 0 := fun h => by rw [hol.1 h] at hlt; cases hlt
    simp only [Int.toNat_natCast, eg, eg2, ho, Option.bind_some, decide_eq_false hno, Bool.false_eq_true, if_false]
theorem insertL_ev (p q : List T31) : ∀ (rem us : List T31), Srt ltr us → p.length + us.length + rem.length + q.length < 1073741824 →
  ∃ t, Srt ltr t ∧ SE ltr (us ++ rem) t ∧ Ev (fun k => slices_insertionSortCmpFunc_l0 (p.length : Int) ((p.length + us.length + rem.length : Nat) : Int) k ((p.length + us.length : Nat) : Int) (p ++ (us ++ (rem ++ q)))) (p ++ (t ++ q)) := by
 intro rem
 induction rem with
 | nil =>
  intro us hs hl; refine ⟨us, hs, by simpa using SE.refl us, Ev.step (g := fun _ => some (p ++ (us ++ q))) (fun k => ?_) (Ev.now _)⟩; rw [slices_insertionSortCmpFunc_l0, if_neg (by simp)]; rfl
 | cons x rem ih =>
  intro us hs hl; simp only [List.length_cons] at hl; obtain ⟨u1, u2, h1, h2, h3, h4⟩ := insert_ev x p us.length us (rem ++ q) rfl (by simp; omega); have hs' := hs; rw [h1] at hs'; obtain ⟨q1, q2, q3⟩ := List.pairwise_append.1 hs'; have hsrt : Srt ltr (u1 ++ x :: u2) := by
   refine Srt.append q1 (List.pairwise_cons.2 ⟨fun y hy => ltr_swo.asym (h2 y hy), q2⟩) fun y hy z hz => ?_
   rcases List.mem_cons.1 hz with rfl | hz
   ·obtain ⟨i, hi, e⟩ := List.mem_iff_getElem.1 hy; have hne : u1 ≠ [] := fun h => by rw [h] at hy; cases hy
    have hlast := h3 u1.dropLast (u1.getLast hne) (List.dropLast_concat_getLast hne).symm; have : ltr (u1.getLast hne) y = false := by
     have h5 := srt_getD q1 (i := i) (j := u1.length - 1) (by omega) (by omega); rw [getD_eq u1 z31 hi, getD_eq u1 z31 (by omega), e] at h5; rw [List.getLast_eq_getElem]; exact h5
    exact ltr_swo.ntr this hlast
   ·exact q3 y hy z hz
  obtain ⟨t, g1, g2, g3⟩ := ih (u1 ++ x :: u2) hsrt (by rw [h1] at hl; simp at hl ⊢; omega); refine ⟨t, g1, ?_, Ev.step (g := fun k => (slices_insertionSortCmpFunc_l1 (p.length : Int) k ((p.length + us.length : Nat) : Int) (p ++ (us ++ x :: (rem ++ q)))).bind fun s8 => slices_insertionSortCmpFunc_l0 (p.length : Int) ((p.length + us.length + (x :: rem).length : Nat) : Int) k ((p.length + us.length + 1 : Nat) : Int) s8) (fun k => ?_) (Ev.bind h4 ?_)⟩
  ·have h5 : SE ltr (u2 ++ [x]) ([x] ++ u2) := SE.swap ltr_swo fun a ha y hy => by simp at hy; subst hy; exact h2 a ha
   have h6 := ((SE.refl u1).append h5).append (SE.refl rem); rw [show us ++ x :: rem = u1 ++ (u2 ++ [x]) ++ rem by rw [h1]; simp]; refine SE.trans h6 ?_; rw [show u1 ++ ([x] ++ u2) ++ rem = u1 ++ x :: u2 ++ rem by simp]; exact g2
  ·rw [slices_insertionSortCmpFunc_l0, if_pos (by simp; omega), i64w (by omega)]; rfl
  ·have hlen : (u1 ++ x :: u2).length = us.length + 1 := by rw [h1]; simp; omega
   rw [hlen, show p ++ (u1 ++ x :: u2 ++ (rem ++ q)) = p ++ (u1 ++ x :: (u2 ++ (rem ++ q))) by simp, show p.length + (us.length + 1) + rem.length = p.length + us.length + (x :: rem).length by simp; omega,
    show p.length + (us.length + 1) = p.length + us.length + 1 by omega] at g3
   exact g3
theorem insertion_ev (p s q : List T31) (hl : p.length + s.length + q.length < 1073741824) : ∃ t, Srt ltr t ∧ SE ltr s t ∧ Ev (fun k => slices_insertionSortCmpFunc k (p ++ (s ++ q)) (p.length : Int) ((p.length + s.length : Nat) : Int)) (p ++ (t ++ q)) := by
 cases s with
 | nil =>
  refine ⟨[], List.Pairwise.nil, SE.refl _, Ev.bind (Ev.step (g := fun _ => some (p ++ q)) (fun k => ?_) (Ev.now _)) (Ev.now _)⟩; simp only [List.length_nil] at hl; rw [slices_insertionSortCmpFunc_l0, if_neg (by rw [i64w (by omega)]; simp; omega)]; rfl
 | cons x s =>
  simp only [List.length_cons] at hl; obtain ⟨t, h1, h2, h3⟩ := insertL_ev p q s [x] (List.pairwise_singleton _ _) (by simp; omega); refine ⟨t, h1, h2, Ev.bind ?_ (Ev.now _)⟩; rw [i64w (by omega)]; simp only [List.length_singleton] at h3; rw [show p.length + (x :: s).length = p.length + 1 + s.length by simp; omega]; exact h3
inductive FB (B : Nat) : List T31 → Prop
 | nil : FB B []
 | cons {s xs : List T31} (hs : s.length = B) (h : Srt ltr s) (hx : FB B xs) : FB B (s ++ xs)
inductive Blk (B : Nat) : List T31 → Prop
 | last {s : List T31} (hs : s.length ≤ B) (h : Srt ltr s) : Blk B s
 | cons {s xs : List T31} (hs : s.length = B) (h : Srt ltr s) (hx : Blk B xs) : Blk B (s ++ xs)
theorem FB.snoc {B : Nat} {xs s : List T31} (h : FB B xs) (hs : s.length = B) (hss : Srt ltr s) : FB B (xs ++ s) := by
 induction h with
 | nil => simpa using FB.cons hs hss FB.nil
 | cons h1 h2 _ ih => rw [List.append_assoc]; exact FB.cons h1 h2 ih
theorem FB.blk {B : Nat} {xs ys : List T31} (h : FB B xs) (h' : Blk B ys) : Blk B (xs ++ ys) := by
 induction h with
 | nil => exact h'
 | cons h1 h2 _ ih => rw [List.append_assoc]; exact Blk.cons h1 h2 ih
theorem Blk.short {B : Nat} (hB : 0 < B) {xs : List T31} (h : Blk B xs) (hl : xs.length ≤ B) : Srt ltr xs := by
 cases h with
 | last _ h => exact h
 | cons h1 h2 h3 =>
  rename_i s xs
  rw [List.length_append] at hl; rw [List.eq_nil_of_length_eq_zero (l := xs) (by omega), List.append_nil]; exact h2
theorem Blk.parts {B : Nat} (hB : 0 < B) {xs : List T31} (h : Blk B xs) (hl : B < xs.length) : ∃ s ys, xs = s ++ ys ∧ s.length = B ∧ Srt ltr s ∧ Blk B ys := by
 cases h with
 | last h1 h => omega
 | cons h1 h2 h3 => exact ⟨_, _, rfl, h1, h2, h3⟩
theorem Blk.none (B : Nat) : Blk B [] := Blk.last (by simp) List.Pairwise.nil
theorem blocks_ev : ∀ (n : Nat) (rem dn : List T31), rem.length = n → FB 20 dn → dn.length + rem.length < 1073741824 →
  ∃ dn' rem', FB 20 dn' ∧ SE ltr (dn ++ rem) (dn' ++ rem') ∧ rem'.length ≤ 20 ∧
   Ev (fun k => slices_stableCmpFunc_l0 ((dn.length + rem.length : Nat) : Int) k (dn.length : Int) ((dn.length + 20 : Nat) : Int) (dn ++ rem)) ((dn'.length : Int), dn' ++ rem') := by
 intro n
 induction n using Nat.strongRecOn with
 | ind n ih =>
  intro rem dn hn hd hl; by_cases c : 20 ≤ rem.length
  ·have hs : (rem.take 20).length = 20 := by simp; omega
   obtain ⟨t, h1, h2, h3⟩ := insertion_ev dn (rem.take 20) (rem.drop 20) (by simp; omega); have ht := SE.length h2; rw [hs] at ht h3; rw [List.take_append_drop] at h3; obtain ⟨dn', rem', g1, g2, g3, g4⟩ := ih (rem.drop 20).length (by simp; omega) (rem.drop 20) (dn ++ t) rfl (hd.snoc ht.symm h1) (by simp; omega); refine ⟨dn', rem', g1, ?_, g3, Ev.step (g := fun k => (slices_insertionSortCmpFunc k (dn ++ rem) (dn.length : Int) ((dn.length + 20 : Nat) : Int)).bind fun t9 => slices_stableCmpFunc_l0 ((dn.length + rem.length : Nat) : Int) k ((dn.length + 20 : Nat) : Int) ((dn.length + 20 + 20 : Nat) : Int) t9) (fun k => ?_) (Ev.bind h3 ?_)⟩
   ·refine SE.trans ?_ g2; have := ((SE.refl dn).append h2).append (SE.refl (rem.drop 20)); rw [List.append_assoc, List.take_append_drop] at this; exact this
   ·rw [slices_stableCmpFunc_l0, if_pos (by omega), i64w (x := ((dn.length + 20 : Nat) : Int) + 20) (by omega)]; rfl
   ·rw [List.length_append, ← ht, show dn.length + 20 + (rem.drop 20).length = dn.length + rem.length by simp; omega, List.append_assoc] at g4; exact g4
  ·refine ⟨dn, rem, hd, SE.refl _, by omega, Ev.step (g := fun _ => some ((dn.length : Int), dn ++ rem)) (fun k => ?_) (Ev.now _)⟩; rw [slices_stableCmpFunc_l0, if_neg (by omega)]
theorem pass_ev (B : Nat) (hB : 0 < B) : ∀ (n : Nat) (rem dn : List T31), rem.length = n → FB (2 * B) dn → Blk B rem → dn.length + rem.length < 1073741824 → B < 1073741824 →
  ∃ dn' rem', FB (2 * B) dn' ∧ Blk B rem' ∧ rem'.length < 2 * B ∧ SE ltr (dn ++ rem) (dn' ++ rem') ∧
   Ev (fun k => slices_stableCmpFunc_l2 ((dn.length + rem.length : Nat) : Int) (B : Int) k (dn.length : Int) ((dn.length + 2 * B : Nat) : Int) (dn ++ rem)) ((dn'.length : Int), dn' ++ rem') := by
 intro n
 induction n using Nat.strongRecOn with
 | ind n ih =>
  intro rem dn hn hd hr hl hBl; by_cases c : 2 * B ≤ rem.length
  ·obtain ⟨s1, ys, rfl, l1, q1, hy⟩ := hr.parts hB (by omega); rw [List.length_append] at hn hl c; obtain ⟨s2, zs, rfl, l2, q2, hz⟩ : ∃ s2 zs, ys = s2 ++ zs ∧ s2.length = B ∧ Srt ltr s2 ∧ Blk B zs := by
    by_cases c2 : B < ys.length
    ·exact hy.parts hB c2
    ·exact ⟨ys, [], by simp, by omega, hy.short hB (by omega), Blk.none B⟩
   rw [List.length_append] at hn hl c; obtain ⟨t, h1, h2, _, _, h3⟩ := symMerge_ev _ s1 s2 rfl (by omega) (by omega) (by omega) q1 q2; have h3 := h3 dn zs (by omega); have ht := SE.length h2; rw [List.length_append] at ht; obtain ⟨dn', rem', g1, g2, g3, g4, g5⟩ := ih zs.length (by omega) zs (dn ++ t) rfl (hd.snoc (by omega) h1) hz (by simp; omega) hBl; refine ⟨dn', rem', g1, g2, g3, ?_, Ev.step (g := fun k => (slices_symMergeCmpFunc k (dn ++ (s1 ++ (s2 ++ zs))) (dn.length : Int) ((dn.length + s1.length : Nat) : Int) ((dn.length + s1.length + s2.length : Nat) : Int)).bind fun t9 => slices_stableCmpFunc_l2 ((dn.length + (s1 ++ (s2 ++ zs)).length : Nat) : Int) (B : Int) k ((dn.length + 2 * B : Nat) : Int) ((dn.length + 2 * B + 2 * B : Nat) : Int) t9) (fun k => ?_) (Ev.bind h3 ?_)⟩
   ·refine SE.trans ?_ g4; have := ((SE.refl dn).append h2).append (SE.refl zs); simp only [List.append_assoc] at this ⊢; exact this
   ·have e1 : IntKind.i64.wrap ((dn.length : Int) + (B : Int)) = ((dn.length + s1.length : Nat) : Int) := by rw [i64w (by omega)]; omega
    have e2 : IntKind.i64.wrap (2 * (B : Int)) = ((2 * B : Nat) : Int) := by rw [i64w (by omega)]; omega
    have e3 : IntKind.i64.wrap (((dn.length + 2 * B : Nat) : Int) + ((2 * B : Nat) : Int)) = ((dn.length + 2 * B + 2 * B : Nat) : Int) := by rw [i64w (by omega)]; omega
    rw [slices_stableCmpFunc_l2, if_pos (by simp; omega), e1, e2, e3, show dn.length + 2 * B = dn.length + s1.length + s2.length by omega]
   ·rw [List.length_append, show dn.length + t.length = dn.length + 2 * B by omega, show dn.length + 2 * B + zs.length = dn.length + (s1 ++ (s2 ++ zs)).length by simp; omega, List.append_assoc] at g5; exact g5
  ·refine ⟨dn, rem, hd, hr, by omega, SE.refl _, Ev.step (g := fun _ => some ((dn.length : Int), dn ++ rem)) (fun k => ?_) (Ev.now _)⟩; rw [slices_stableCmpFunc_l2, if_neg (by omega)]
theorem passes_ev : ∀ (n B : Nat) (xs : List T31), xs.length - B = n → 0 < B → Blk B xs → xs.length < 1073741824 → B < 2147483648 →
  ∃ t, Srt ltr t ∧ SE ltr xs t ∧ Ev (fun k => slices_stableCmpFunc_l1 (xs.length : Int) k (B : Int) xs) t := by
 intro n
 induction n using Nat.strongRecOn with
 | ind n ih =>
  intro B xs hn hB hb hl hBl; by_cases c : B < xs.length
  ·obtain ⟨dn, rem, g1, g2, g3, g4, g5⟩ := pass_ev B hB _ xs [] rfl FB.nil hb (by simpa using hl) (by omega); simp only [List.nil_append, List.length_nil, Nat.zero_add] at g4 g5; have hlen := SE.length g4; rw [List.length_append] at hlen; have e2 : IntKind.i64.wrap (2 * (B : Int)) = ((2 * B : Nat) : Int) := by rw [i64w (by omega)]; omega
   have e3 : IntKind.i64.wrap ((B : Int) * 2) = ((2 * B : Nat) : Int) := by rw [i64w (by omega)]; omega
   have e4 : IntKind.i64.wrap ((dn.length : Int) + (B : Int)) = ((dn.length + B : Nat) : Int) := by rw [i64w (by omega)]; omega
   by_cases c2 : B < rem.length
   ·obtain ⟨s1, s2, rfl, l1, q1, hy⟩ := g2.parts hB c2; rw [List.length_append] at hlen g3 c2; obtain ⟨t, h1, h2, _, _, h3⟩ := symMerge_ev _ s1 s2 rfl (by omega) (by omega) (by omega) q1 (hy.short hB (by omega)); have h3 := h3 dn [] (by simp; omega); simp only [List.append_nil] at h3; have ht := SE.length h2; rw [List.length_append] at ht; obtain ⟨u, k1, k2, k3⟩ := ih (xs.length - 2 * B) (by omega) (2 * B) (dn ++ t) (by simp; omega) (by omega) (g1.blk (Blk.last (by omega) h1)) (by simp; omega) (by omega); refine ⟨u, k1, g4.trans (SE.trans ((SE.refl dn).append h2) k2), Ev.step (g := fun k => (slices_stableCmpFunc_l2 (xs.length : Int) (B : Int) k 0 ((2 * B : Nat) : Int) xs).bind fun s24 => if IntKind.i64.wrap (s24.1 + (B : Int)) < (xs.length : Int) then (slices_symMergeCmpFunc k s24.2 s24.1 (IntKind.i64.wrap (s24.1 + (B : Int))) (xs.length : Int)).bind fun t37 => slices_stableCmpFunc_l1 (xs.length : Int) k ((2 * B : Nat) : Int) t37 else slices_stableCmpFunc_l1 (xs.length : Int) k ((2 * B : Nat) : Int) s24.2) (fun k => ?_) (Ev.bind g5 ?_)⟩
    ·rw [slices_stableCmpFunc_l1, if_pos (by omega), e2, e3]
    ·simp only [e4]; refine Ev.pos (by omega) ?_; rw [show dn.length + s1.length + s2.length = xs.length by omega, l1] at h3; refine Ev.bind h3 ?_; rw [List.length_append, show dn.length + t.length = xs.length by omega] at k3; exact k3
   ·obtain ⟨u, k1, k2, k3⟩ := ih (xs.length - 2 * B) (by omega) (2 * B) (dn ++ rem) (by simp; omega) (by omega) (g1.blk (Blk.last (by omega) (g2.short hB (by omega)))) (by simp; omega) (by omega); refine ⟨u, k1, g4.trans k2, Ev.step (g := fun k => (slices_stableCmpFunc_l2 (xs.length : Int) (B : Int) k 0 ((2 * B : Nat) : Int) xs).bind fun s24 => if IntKind.i64.wrap (s24.1 + (B : Int)) < (xs.length : Int) then (slices_symMergeCmpFunc k s24.2 s24.1 (IntKind.i64.wrap (s24.1 + (B : Int))) (xs.length : Int)).bind fun t37 => slices_stableCmpFunc_l1 (xs.length : Int) k ((2 * B : Nat) : Int) t37 else slices_stableCmpFunc_l1 (xs.length : Int) k ((2 * B : Nat) : Int) s24.2) (fun k => ?_) (Ev.bind g5 ?_)⟩
    ·rw [slices_stableCmpFunc_l1, if_pos (by omega), e2, e3]
    ·simp only [e4]; refine Ev.neg (by omega) ?_; rw [List.length_append, show dn.length + rem.length = xs.length by omega] at k3; exact k3
  ·refine ⟨xs, hb.short hB (by omega), SE.refl _, Ev.step (g := fun _ => some xs) (fun k => ?_) (Ev.now _)⟩; rw [slices_stableCmpFunc_l1, if_neg (by omega)]
theorem Sort_ev (xs : List T31) (hl : xs.length < 1073741824) : ∃ t, Srt ltr t ∧ SE ltr xs t ∧ Ev (fun k => record_Sort k xs) t := by
 obtain ⟨dn, rem, g1, g2, g3, g4⟩ := blocks_ev _ xs [] rfl FB.nil (by simpa using hl); simp only [List.nil_append, List.length_nil, Nat.zero_add] at g2 g4; have hlen := SE.length g2; rw [List.length_append] at hlen; obtain ⟨t, h1, h2, h3⟩ := insertion_ev dn rem [] (by simp; omega); simp only [List.append_nil] at h3; have ht := SE.length h2; obtain ⟨u, k1, k2, k3⟩ := passes_ev _ 20 (dn ++ t) rfl (by omega) (g1.blk (Blk.last (by omega) h1)) (by simp; omega) (by omega); rw [List.length_append, show dn.length + t.length = xs.length by omega] at k3; rw [← hlen] at h3; refine ⟨u, k1, g2.trans (SE.trans ((SE.refl dn).append h2) k2), ?_⟩; refine Ev.bind (b := xs) ((Ev.now _).congr fun k => if_pos (by omega)) (Ev.bind (b := u) (Ev.bind (Ev.bind g4 (Ev.bind h3 (Ev.bind k3 (Ev.now _)))) (Ev.now _)) (Ev.now _))
end Go.Proofs.YtbphlohiealbeaaGreatDoor.Pure
