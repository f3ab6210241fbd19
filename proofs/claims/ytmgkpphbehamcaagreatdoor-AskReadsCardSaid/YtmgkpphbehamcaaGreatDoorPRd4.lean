
import Derived.Test.YtmgkpphbehamcaaGreatDoorPRd3
namespace Go.Proofs.YtmgkpphbehamcaaGreatDoor.Pure
open Go Go.Gg Go.Gp Gf
set_option linter.unusedVariables false
set_option linter.unusedSimpArgs false
theorem small_up : ∀ (d : Nat) (x : T26), SmallN d x → SmallN (d + 1) x ∧ cntN (d + 1) x = cntN d x ∧ deepN (d + 1) x = deepN d x ∧ termsN (d + 1) x = termsN d x ∧ goodN (d + 1) x = goodN d x
 | 0, x, h => h.elim
 | d + 1, x, ⟨h1, h2, h3, h4⟩ => by
  have ih : ∀ s ∈ x.f3, _ := fun s hs => small_up d s (h4 s hs)
  refine ⟨⟨h1, h2, h3, fun s hs => (ih s hs).1⟩, ?_, ?_, ?_, ?_⟩
  ·rw [cntN, cntN]
   congr 2
   exact List.map_congr_left fun s hs => (ih s hs).2.1
  ·rw [deepN, deepN]
   congr 2
   exact List.map_congr_left fun s hs => (ih s hs).2.2.1
  ·rw [termsN, termsN]; have : x.f3.map (termsN (d + 1)) = x.f3.map (termsN d) := List.map_congr_left fun s hs => (ih s hs).2.2.2.1
   rw [this]
  ·rw [goodN, goodN]
   congr 1
   congr 1
   rw [Bool.eq_iff_iff, List.all_eq_true, List.all_eq_true]; exact ⟨fun h s hs => (ih s hs).2.2.2.2 ▸ h s hs, fun h s hs => (ih s hs).2.2.2.2.symm ▸ h s hs⟩
theorem small_ups (d : Nat) (x : T26) (h : SmallN d x) : ∀ e, SmallN (d + e) x ∧ cntN (d + e) x = cntN d x ∧ deepN (d + e) x = deepN d x ∧ termsN (d + e) x = termsN d x ∧ goodN (d + e) x = goodN d x
 | 0 => ⟨h, rfl, rfl, rfl, rfl⟩
 | e + 1 => by
  obtain ⟨a, b, c, d', g⟩ := small_ups d x h e; obtain ⟨a', b', c', d'', g'⟩ := small_up (d + e) x a; exact ⟨a', b'.trans b, c'.trans c, d''.trans d', g'.trans g⟩
theorem normD_len (w : ByteArray) : (normD w).size ≤ 4 * w.size := by
 by_cases h : Lib.validD w.data.toList = true
 ·obtain ⟨rs, hr, rfl⟩ := valid_bs h; rw [normD_bs rs hr, bs_size, bs_size]; have h1 := enc_length4 (rs.map Lib.toLowerU); have h2 := enc_length rs; rw [List.length_map] at h1; omega
 ·rw [normD_not (by simpa using h)]; exact Nat.zero_le _
def Sm (d : Nat) (x : T26) (c : Int) : Prop := SmallN d x ∧ cntN d x ≤ c
theorem Sm.up {d : Nat} {x : T26} {c : Int} (h : Sm d x c) (e : Nat) : Sm (d + e) x c := by
 obtain ⟨a, b, _⟩ := small_ups d x h.1 e; exact ⟨a, b ▸ h.2⟩
theorem Sm.le {d : Nat} {x : T26} {c c' : Int} (h : Sm d x c) (hc : c ≤ c') : Sm d x c' := ⟨h.1, by have := h.2; omega⟩
theorem sm_leaf {k n : Int} {ws : List ByteArray} {c : Int} (hc : 1 ≤ c) (h1 : ws.length ≤ 300) (h2 : ∀ w ∈ ws, w.size ≤ 5000) : Sm 1 ⟨k, n, ws, []⟩ c :=
 ⟨⟨h1, h2, by simp, by simp⟩, by simp [cntN]; omega⟩
theorem sm_words {kind : Int} {ws : List ByteArray} {p : PS} {c : Int} (hc : 1 ≤ c) (h1 : ws.length ≤ 300) (h2 : ∀ w ∈ ws, w.size ≤ 1000) (hb : (wordsP kind ws p).2.bad = false) : Sm 1 (wordsP kind ws p).1 c := by
 unfold wordsP at hb ⊢
 split
 ·refine sm_leaf hc (by rw [List.length_map]; exact h1) fun w hw => ?_
  obtain ⟨v, hv, rfl⟩ := List.mem_map.1 hw; have := normD_len v; have := h2 v hv; omega
 ·rename_i h
  rw [if_neg h] at hb
  cases hb
theorem sm_leafP {it : List UInt8} {p : PS} {c : Int} (hl : it.length ≤ 200) (hc : 1 ≤ c) (hb : (leafP it p).2.bad = false) : Sm 1 (leafP it p).1 c := by
 unfold leafP at hb ⊢
 split
 ·exact sm_leaf hc (by simp) (by simp)
 ·rename_i e1
  rw [e1] at hb
  split
  ·exact sm_leaf hc (by simp) (by simp)
  ·rename_i e2
   rw [e2] at hb
   split
   ·exact sm_leaf hc (by simp) (by simp)
   ·rename_i e3
    rw [e3] at hb
    dsimp only at hb
    by_cases h0 : it.head? = some 34
    ·rw [if_pos h0] at hb ⊢; by_cases h1 : Lib.hasSuffix it.tail [34] = true
     ·rw [if_pos h1] at hb ⊢; have hlt : (it.tail.take (it.tail.length - 1)).length ≤ 200 := by rw [List.length_take, List.length_tail]; omega
      have hlen := split_len 32 (it.tail.take (it.tail.length - 1)); exact sm_words hc (by omega) (fun w hw => by have := split_size _ _ _ _ w hw; rw [ba_size] at this; omega) hb
     ·rw [if_neg h1] at hb
      cases hb
    ·rw [if_neg h0] at hb ⊢; by_cases h1 : Lib.hasSuffix it [42] = true
     ·rw [if_pos h1] at hb ⊢; exact sm_words hc (by simp) (fun w hw => by simp at hw; rw [hw, ba_size, List.length_take]; omega) hb
     ·rw [if_neg h1] at hb ⊢; exact sm_words hc (by simp) (fun w hw => by simp at hw; rw [hw, ba_size]; omega) hb
theorem loop_bad (one : PS → T26 × PS) (w : List UInt8) (n : Nat) (l : List T26) {p : PS} (h : p.bad = true) : (loopP one w n l p).2.bad = true := by
 cases n with
 | zero => rfl
 | succ n =>
  rw [loopP, if_neg (by simp [h])]; exact h
def OK (N d : Nat) (one : PS → T26 × PS) : Prop := ∀ p, p.rest.length ≤ N → (one p).2.bad = false → (one p).2.rest.length < p.rest.length ∧ Sm d (one p).1 ((p.rest.length : Int) - (one p).2.rest.length)
theorem sum_app (d : Nat) (l : List T26) (x : T26) : ((l ++ [x]).map (cntN d)).sum = (l.map (cntN d)).sum + cntN d x := by simp
theorem sm_loop {N d : Nat} {one : PS → T26 × PS} (h : OK N d one) (w : List UInt8) (hw : w ≠ []) (c0 : Int) : ∀ (n : Nat) (l : List T26) (p : PS), p.rest.length ≤ N → (∀ x ∈ l, SmallN d x) → 1 ≤ l.length → (l.map (cntN d)).sum + l.length - 1 ≤ c0 - p.rest.length →
  (loopP one w n l p).2.bad = false → (loopP one w n l p).2.rest.length ≤ p.rest.length ∧ (∀ x ∈ (loopP one w n l p).1, SmallN d x) ∧ 1 ≤ (loopP one w n l p).1.length ∧ ((loopP one w n l p).1.map (cntN d)).sum + (loopP one w n l p).1.length - 1 ≤ c0 - (loopP one w n l p).2.rest.length
 | 0, l, p, hN, hl, h1, hc, hb => by cases hb
 | n + 1, l, p, hN, hl, h1, hc, hb => by
  rw [loopP] at hb ⊢; by_cases ht : p.bad = false ∧ nextP p = w
  ·rw [if_pos ht] at hb ⊢; have hlt := take_lt (p := p) (by rw [ht.2]; exact hw); have hob : (one (takeP p)).2.bad = false := by
    cases hq : (one (takeP p)).2.bad with
    | false => rfl
    | true => rw [loop_bad one w n _ hq] at hb; cases hb
   obtain ⟨o1, o2, o3⟩ := h (takeP p) (by omega) hob; have := sm_loop h w hw c0 n (l ++ [(one (takeP p)).1]) (one (takeP p)).2 (by omega) (fun x hx => by
    rcases List.mem_append.1 hx with hx | hx
    ·exact hl x hx
    ·simp at hx; rw [hx]; exact o2) (by simp) (by rw [sum_app, List.length_append, List.length_singleton]; omega) hb
   obtain ⟨r1, r2, r3, r4⟩ := this; exact ⟨by omega, r2, r3, r4⟩
  ·rw [if_neg ht] at hb ⊢; exact ⟨Nat.le_refl _, hl, h1, hc⟩
theorem sm_join {N d : Nat} (hN : N ≤ 999) {one : PS → T26 × PS} (h : OK N d one) (w : List UInt8) (hw : w ≠ []) (kind : Int) (n : Nat) : OK N (d + 1) (joinP one w kind n) := by
 intro p hp hb; unfold joinP at hb ⊢; have hob : (one p).2.bad = false := by
  cases hq : (one p).2.bad with
  | false => rfl
  | true => have := loop_bad one w n [(one p).1] hq; rw [this] at hb; cases hb
 obtain ⟨o1, o2, o3⟩ := h p hp hob; obtain ⟨r1, r2, r3, r4⟩ := sm_loop h w hw p.rest.length n [(one p).1] (one p).2 (by omega) (fun x hx => by simp at hx; rw [hx]; exact o2) (by simp) (by simp; omega) hb
 dsimp only at hb ⊢
 refine ⟨by omega, ?_⟩; have hsl := sum_len d _ r2; have hsp := sum_pos d (loopP one w n [(one p).1] (one p).2).1; unfold pickK; by_cases h1 : (loopP one w n [(one p).1] (one p).2).1.length = 1
 ·rw [if_pos h1]; obtain ⟨x, hx⟩ := List.length_eq_one_iff.1 h1; rw [hx] at r2 r4 ⊢; refine Sm.up (d := d) ⟨r2 x (by simp), ?_⟩ 1; simp at r4 ⊢; exact r4
 ·rw [if_neg h1]; refine ⟨⟨by simp, by simp, by dsimp only; omega, r2⟩, ?_⟩; simp only [cntN]; omega
theorem one_small {N : Nat} (hN : N ≤ 200) : ∀ n, OK N (3 * n) (oneP n)
 | 0 => fun p hp hb => by cases hb
 | n + 1 => fun p hp hb => by
  have ih := one_small hN n; rw [oneP] at hb ⊢; have h0 : nextP p ≠ [] := by
   intro e; rw [e, if_neg (by decide), if_neg (by decide)] at hb; have : (takeP p).bad = true := by unfold takeP; rw [if_pos e]
   rw [if_pos this, this] at hb
   cases hb
  have hlt := take_lt h0; have hle := nextP_le p; by_cases h1 : nextP p = NOT_
  ·rw [if_pos h1] at hb ⊢; obtain ⟨o1, o2, o3⟩ := ih (takeP p) (by omega) hb; refine ⟨by dsimp only; omega, ?_⟩; have : Sm (3 * n + 1) ⟨9, 0, [], [(oneP n (takeP p)).1]⟩ ((p.rest.length : Int) - (oneP n (takeP p)).2.rest.length) := ⟨⟨by simp, by simp, by simp, fun s hs => by simp at hs; rw [hs]; exact o2⟩, by simp [cntN]; omega⟩; exact this.up 2
  ·rw [if_neg h1] at hb ⊢; by_cases h2 : nextP p = [40]
   ·rw [if_pos h2] at hb ⊢; have ha : OK N (3 * n + 2) (anyP (oneP n) n) := sm_join (by omega) (sm_join (by omega) ih AND (by decide) 7 n) OR (by decide) 8 n; by_cases h3 : nextP (anyP (oneP n) n (takeP p)).2 = [41]
    ·rw [if_pos h3] at hb ⊢; have hnb := (nextP_no (p := (anyP (oneP n) n (takeP p)).2) (by rw [h3]; decide)).2; have ht2 := take_lt (p := (anyP (oneP n) n (takeP p)).2) (by rw [h3]; decide); obtain ⟨o1, o2⟩ := ha (takeP p) (by omega) hnb; refine ⟨by dsimp only; omega, ?_⟩; exact (o2.up 1).le (by dsimp only; omega)
    ·rw [if_neg h3] at hb
     cases hb
   ·rw [if_neg h2] at hb ⊢; by_cases h3 : (takeP p).bad = true
    ·rw [if_pos h3, h3] at hb
     cases hb
    ·rw [if_neg h3] at hb ⊢; rw [leaf_rest]; refine ⟨hlt, ?_⟩; have := sm_leafP (it := nextP p) (p := takeP p) (c := (p.rest.length : Int) - (takeP p).rest.length) (by omega) (by omega) hb; have h4 := this.up (3 * n + 2); rw [show 1 + (3 * n + 2) = 3 * (n + 1) by omega] at h4; exact h4
end Go.Proofs.YtmgkpphbehamcaaGreatDoor.Pure
