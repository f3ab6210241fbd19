
import Derived.Test.YtmgkpphbehamcaaGreatDoorPRd5
import Derived.Lib.ItoaLen
namespace Go.Proofs.YtmgkpphbehamcaaGreatDoor.Pure
open Go Go.Gg Go.Gp Gf
set_option linter.unusedVariables false
set_option linter.unusedSimpArgs false
theorem join_len (sep : List UInt8) : ∀ ls : List (List UInt8), (Lib.join ls sep).length ≤ (ls.map List.length).sum + ls.length * sep.length
 | [] => by simp [Lib.join_nil]
 | [x] => by simp [Lib.join_one]
 | x :: y :: t => by
  have h := join_len sep (y :: t); have e : Lib.join (x :: y :: t) sep = x ++ sep ++ Lib.join (y :: t) sep := by simp [Lib.join, List.intercalate]
  rw [e]; simp only [List.length_append, List.map_cons, List.sum_cons, List.length_cons] at h ⊢; have : (t.length + 1 + 1) * sep.length = (t.length + 1) * sep.length + sep.length := by rw [Nat.add_mul, Nat.one_mul]
  omega
def withP (kind : Int) (x : T26) (t : List UInt8) : List UInt8 := if x.f0 = 8 ∨ x.f0 = 7 ∧ kind ≠ 8 then [40, 32] ++ t ++ [32, 41] else t
def wr1 (x : T26) (subs : List (List UInt8)) : List UInt8 :=
 if x.f0 = 1 then (x.f2.getD 0 ⟨#[]⟩).data.toList
 else if x.f0 = 2 then (x.f2.getD 0 ⟨#[]⟩).data.toList ++ [42]
 else if x.f0 = 3 then [34] ++ Lib.join (x.f2.map (·.data.toList)) [32] ++ [34]
 else if x.f0 = 4 then FROM ++ Lib.itoa x.f1
 else if x.f0 = 5 then SINCE ++ Lib.itoa x.f1
 else if x.f0 = 6 then UNTIL ++ Lib.itoa x.f1
 else if x.f0 = 9 then [78, 79, 84, 32] ++ subs.getD 0 []
 else if x.f0 = 7 then Lib.join subs [32, 65, 78, 68, 32]
 else Lib.join subs [32, 79, 82, 32]
def wrN : Nat → T26 → List UInt8
 | 0, _ => []
 | d + 1, x => wr1 x (x.f3.map fun s => withP x.f0 s (wrN d s))
theorem with_len (kind : Int) (x : T26) (t : List UInt8) : (withP kind x t).length ≤ t.length + 4 := by
 unfold withP
 split <;> simp <;> omega
theorem sum_words (l : List ByteArray) (h : ∀ w ∈ l, w.size ≤ 5000) : ((l.map (·.data.toList)).map List.length).sum ≤ 5000 * l.length := by
 induction l with
 | nil => simp
 | cons w t ih =>
  have h1 := h w (by simp); have h2 := ih (fun v hv => h v (by simp [hv])); have h3 : w.data.toList.length = w.size := by rw [Array.length_toList]; rfl
  simp only [List.map_cons, List.sum_cons, List.length_cons, h3]; omega
theorem itoa_len (n : Int) (h : -9223372036854775808 ≤ n ∧ n ≤ 9223372036854775807) : (Lib.itoa n).length ≤ 21 := Lib.itoa_length_le n h.1 h.2
theorem shape_f1 {x : T26} (h : shapeB x = true) : 0 ≤ x.f1 ∧ x.f1 ≤ 1099511627776 := by
 unfold shapeB at h; have := of_decide_eq_true h; omega
theorem good_shape {d : Nat} {x : T26} (h : goodN (d + 1) x = true) : shapeB x = true := by
 cases hs : shapeB x with
 | true => rfl
 | false => rw [good_no hs] at h; cases h
theorem good_sub {d : Nat} {x : T26} (h : goodN (d + 1) x = true) : ∀ s ∈ x.f3, goodN d s = true := by
 simp only [goodN, Bool.and_eq_true, List.all_eq_true] at h; intro s hs; exact h.2.2 s hs
theorem wrN_len : ∀ (d : Nat) (x : T26), SmallN d x → goodN d x = true → ((wrN d x).length : Int) ≤ 2000000 * cntN d x
 | 0, x, h, _ => h.elim
 | d + 1, x, ⟨h1, h2, h3, h4⟩, hg => by
  have hsh := good_shape hg; have hsub := good_sub hg; have hf1 := shape_f1 hsh; have hit := itoa_len x.f1 (by omega); have hw := sum_words x.f2 h2; have hjw := join_len [32] (x.f2.map (·.data.toList)); have hx2 : (x.f2.getD 0 ⟨#[]⟩).data.toList.length ≤ 5000 := by
   rw [Array.length_toList]; show (x.f2.getD 0 ⟨#[]⟩).size ≤ 5000; by_cases h0 : 0 < x.f2.length
   ·exact h2 _ (getD_mem _ _ h0)
   ·have e : x.f2 = [] := List.eq_nil_of_length_eq_zero (by omega); rw [e]; decide
  have key : ∀ l : List T26, (∀ s ∈ l, SmallN d s ∧ goodN d s = true) → ((((l.map fun s => withP x.f0 s (wrN d s)).map List.length).sum : Nat) : Int) ≤ 2000000 * (l.map (cntN d)).sum + 4 * l.length := by
   intro l
   induction l with
   | nil => intro _; simp
   | cons y t ih =>
    intro h; have a := wrN_len d y (h y (by simp)).1 (h y (by simp)).2; have b := ih (fun s hs => h s (by simp [hs])); have c := with_len x.f0 y (wrN d y); simp only [List.map_cons, List.sum_cons, List.length_cons]; omega
  have hk := key x.f3 (fun s hs => ⟨h4 s hs, hsub s hs⟩); have hp := sum_pos d x.f3; have hl := sum_len d x.f3 h4; have hj1 := join_len [32, 65, 78, 68, 32] (x.f3.map fun s => withP x.f0 s (wrN d s)); have hj2 := join_len [32, 79, 82, 32] (x.f3.map fun s => withP x.f0 s (wrN d s)); have hsb : ((x.f3.map fun s => withP x.f0 s (wrN d s)).getD 0 []).length ≤ ((x.f3.map fun s => withP x.f0 s (wrN d s)).map List.length).sum := by
   cases x.f3 with
   | nil => simp
   | cons y t => simp
  simp only [List.length_map, List.length_cons, List.length_nil] at hjw hj1 hj2; rw [wrN, cntN]; unfold wr1
  split
  ·omega
  split
  ·simp only [List.length_append, List.length_singleton]; omega
  split
  ·simp only [List.length_append, List.length_singleton]; omega
  split
  ·simp only [List.length_append, FROM, List.length_cons, List.length_nil]; omega
  split
  ·simp only [List.length_append, SINCE, List.length_cons, List.length_nil]; omega
  split
  ·simp only [List.length_append, UNTIL, List.length_cons, List.length_nil]; omega
  split
  ·simp only [List.length_append, List.length_cons, List.length_nil]; omega
  split
  ·omega
  ·omega
theorem within_ev {R : Nat → T26 → Option ByteArray} {s : T26} {t : List UInt8} (hR : Ev (fun k => R k s) (ba t)) (ht : t.length ≤ 4000000000) (kind : Int) : Ev (fun k => ask_within (R k) kind s) (ba (withP kind s t)) := by
 unfold ask_within withP; have hc : (if s.f0 = 8 then some true else (if s.f0 = 7 then some (kind != 8) else some false)) = some (decide (s.f0 = 8 ∨ s.f0 = 7 ∧ kind ≠ 8)) := by
  by_cases h8 : s.f0 = 8
  ·rw [if_pos h8]; simp [h8]
  ·by_cases h7 : s.f0 = 7
   ·rw [if_neg h8, if_pos h7, Option.some.injEq, Bool.eq_iff_iff]; simp [h7]
   ·rw [if_neg h8, if_neg h7]; simp [h8, h7]
 rw [hc]; refine Ev.bind (Ev.now _) ?_; by_cases h : s.f0 = 8 ∨ s.f0 = 7 ∧ kind ≠ 8
 ·rw [if_pos h]; refine Ev.pos (decide_eq_true h) ?_; refine Ev.bind hR ?_; refine Ev.pos (by show 2 + t.length ≤ _; omega) (Ev.pos ?_ ((Ev.now _).is ?_))
  ·show (ba [40, 32] ++ ba t).size + 2 ≤ _; rw [ba_app, ba_size]; simp; omega
  ·show ba [40, 32] ++ ba t ++ ba [32, 41] = _; rw [ba_app, ba_app]
 ·rw [if_neg h]; exact Ev.neg (by simpa using h) (Ev.bind hR (Ev.now _))
theorem write_loop (x : T26) (g : T26 → List UInt8) (hl : x.f3.length ≤ 1000) (hg : ∀ s ∈ x.f3, (g s).length ≤ 4000000000) : ∀ (n i : Nat) (R : Nat → T26 → Option ByteArray), (∀ s ∈ x.f3, Ev (fun k => R k s) (ba (g s))) → i + n = x.f3.length →
  Ev (fun k => ask_write_l0 x (R k) k ((x.f3.take i).map fun s => ba (withP x.f0 s (g s))) (i : Int)) (x.f3.map fun s => ba (withP x.f0 s (g s)))
 | 0, i, R, hR, hi => by
  obtain rfl : i = x.f3.length := by omega
  rw [List.take_length]; exact Ev.step (fun k => by rw [ask_write_l0]) (Ev.neg (by omega) (Ev.now _))
 | n + 1, i, R, hR, hi => by
  have hil : i < x.f3.length := by omega
  have hm := getD_mem x.f3 z26 hil; refine Ev.step (fun k => by rw [ask_write_l0]) (Ev.pos (by omega) (Ev.pos (by omega) ?_)); rw [Int.toNat_natCast, eta26]; refine Ev.bind (within_ev (R := fun k => R (k + 1)) (hR _ hm).shift (hg _ hm) x.f0) ?_; refine Ev.pos (by simp only [List.length_map, List.length_take, List.length_singleton]; omega) ?_; rw [i64w (by omega), show ((i : Nat) : Int) + 1 = ((i + 1 : Nat) : Int) by omega]; have := write_loop x g hl hg n (i + 1) (fun k => R (k + 1)) (fun s hs => (hR s hs).shift) (by omega); rw [take_getD x.f3 z26 hil, List.map_append] at this; exact this
theorem join_tell (ls : List (List UInt8)) (sep : List UInt8) (h1 : ls.length ≤ 100000) (h2 : (Lib.join ls sep).length ≤ 4000000000) : strings_Join (ls.map ba) (ba sep) = some (ba (Lib.join ls sep)) := by
 unfold strings_Join; have e : (ls.map ba).map (fun x => x.data.toList) = ls := by rw [List.map_map]; exact List.map_id' ls
 rw [e]; rw [if_pos ⟨by rw [List.length_map]; omega, by show (Lib.join ls sep).length ≤ _; omega⟩]; rfl
theorem itoa_tell (n : Int) (h : -9223372036854775808 ≤ n ∧ n ≤ 9223372036854775807) : strconv_Itoa n = some (ba (Lib.itoa n)) := if_pos h
theorem write_ev : ∀ (d : Nat) (x : T26), SmallN d x → cntN d x ≤ 1000 → goodN d x = true → Ev (fun k => ask_write k x) (ba (wrN d x))
 | 0, x, h, _, _ => h.elim
 | d + 1, x, hs, hc, hg => by
  have hlen := wrN_len (d + 1) x hs hg; obtain ⟨h1, h2, h3, h4⟩ := hs; have hsh := good_shape hg; have hsub := good_sub hg; have hf1 := shape_f1 hsh; have hit := itoa_len x.f1 (by omega); rw [cntN] at hc; have hcs : ∀ s ∈ x.f3, cntN d s ≤ 1000 := by
   intro s hs; have key : ∀ l : List T26, s ∈ l → cntN d s ≤ (l.map (cntN d)).sum := by
    intro l
    induction l with
    | nil => intro h; cases h
    | cons y t ih =>
     intro h; have a := cntN_pos d y; have b := sum_pos d t; simp only [List.map_cons, List.sum_cons]; rcases List.mem_cons.1 h with rfl | h
     ·omega
     ·have := ih h; omega
   have := key x.f3 hs; omega
  have hgl : ∀ s ∈ x.f3, (wrN d s).length ≤ 4000000000 := fun s hs => by
   have := wrN_len d s (h4 s hs) (hsub s hs); have := hcs s hs; omega
  refine Ev.step (fun k => by rw [ask_write]) ?_; refine Ev.bind (write_loop x (wrN d) h3 hgl x.f3.length 0 (fun k => ask_write k) (fun s hs => write_ev d s (h4 s hs) (hcs s hs) (hsub s hs)) (by omega)) ?_; have hL : (wrN (d + 1) x).length ≤ 4000000000 := by rw [cntN] at hlen; omega
  rw [wrN] at hL ⊢; have hcase := hsh; unfold shapeB at hcase; have hcase := of_decide_eq_true hcase; have hz : ∀ i : Nat, ((i : Nat) : Int).toNat = i := fun i => by omega
  have z0 : (0 : Int).toNat = 0 := rfl; have em : x.f2.map (fun w => ba w.data.toList) = x.f2 := List.map_id' x.f2; have esub : (x.f3.map fun s => ba (withP x.f0 s (wrN d s))) = (x.f3.map fun s => withP x.f0 s (wrN d s)).map ba := by rw [List.map_map]; rfl
  have hwsz : (x.f2.getD 0 (⟨#[]⟩ : ByteArray)).size ≤ 5000 := by
   by_cases h0 : 0 < x.f2.length
   ·exact h2 _ (getD_mem _ _ h0)
   ·have e : x.f2 = [] := List.eq_nil_of_length_eq_zero (by omega); rw [e]; decide
  unfold wr1 at hL ⊢; rw [z0]; by_cases c1 : x.f0 = 1
  ·refine Ev.pos c1 ?_; rw [if_pos c1]; exact Ev.pos (by omega) (Ev.now _)
  refine Ev.neg c1 ?_; rw [if_neg c1]; by_cases c2 : x.f0 = 2
  ·refine Ev.pos c2 ?_; rw [if_pos c2]; refine Ev.pos (by omega) (Ev.pos (by show _ + 1 ≤ _; omega) ((Ev.now _).is ?_)); exact ba_app (x.f2.getD 0 (⟨#[]⟩ : ByteArray)).data.toList [42]
  refine Ev.neg c2 ?_; rw [if_neg c2]; by_cases c3 : x.f0 = 3
  ·rw [if_neg c1, if_neg c2, if_pos c3] at hL; simp only [List.length_append, List.length_singleton] at hL; refine Ev.pos c3 ?_; rw [if_pos c3]; have hj := join_tell (x.f2.map (·.data.toList)) [32] (by rw [List.length_map]; omega) (by omega); rw [List.map_map] at hj; have em2 : x.f2.map (ba ∘ fun w => w.data.toList) = x.f2 := em; rw [em2] at hj; refine Ev.bind ((Ev.now _).congr fun k => hj) ?_; refine Ev.pos (by show 1 + (Lib.join (x.f2.map (·.data.toList)) [32]).length ≤ _; omega) (Ev.pos ?_ ((Ev.now _).is ?_))
   ·show (ba [34] ++ ba _).size + 1 ≤ _; rw [ba_app, ba_size, List.length_append, List.length_singleton]; omega
   ·show ba [34] ++ ba _ ++ ba [34] = _; rw [ba_app, ba_app]
  refine Ev.neg c3 ?_; rw [if_neg c3]; by_cases c4 : x.f0 = 4
  ·refine Ev.pos c4 ?_; rw [if_pos c4]; rw [itoa_tell x.f1 (by omega)]; refine Ev.bind (Ev.now _) (Ev.pos (by show 5 + (Lib.itoa x.f1).length ≤ _; omega) ((Ev.now _).is ?_)); exact ba_app FROM _
  refine Ev.neg c4 ?_; rw [if_neg c4]; by_cases c5 : x.f0 = 5
  ·refine Ev.pos c5 ?_; rw [if_pos c5]; rw [itoa_tell x.f1 (by omega)]; refine Ev.bind (Ev.now _) (Ev.pos (by show 6 + (Lib.itoa x.f1).length ≤ _; omega) ((Ev.now _).is ?_)); exact ba_app SINCE _
  refine Ev.neg c5 ?_; rw [if_neg c5]; by_cases c6 : x.f0 = 6
  ·refine Ev.pos c6 ?_; rw [if_pos c6]; rw [itoa_tell x.f1 (by omega)]; refine Ev.bind (Ev.now _) (Ev.pos (by show 6 + (Lib.itoa x.f1).length ≤ _; omega) ((Ev.now _).is ?_)); exact ba_app UNTIL _
  refine Ev.neg c6 ?_; rw [if_neg c6]; rw [if_neg c1, if_neg c2, if_neg c3, if_neg c4, if_neg c5, if_neg c6] at hL; rw [esub]; by_cases c9 : x.f0 = 9
  ·refine Ev.pos c9 ?_; rw [if_pos c9] at hL ⊢; have hl1 : x.f3.length = 1 := by omega
   have hg0 : ((x.f3.map fun s => withP x.f0 s (wrN d s)).map ba).getD 0 (⟨#[]⟩ : ByteArray) = ba ((x.f3.map fun s => withP x.f0 s (wrN d s)).getD 0 []) := by
    obtain ⟨y, hy⟩ := List.length_eq_one_iff.1 hl1; rw [hy]; rfl
   rw [hg0]; simp only [List.length_append, List.length_cons, List.length_nil] at hL; refine Ev.pos (by simp only [List.length_map]; omega) (Ev.pos (by show 4 + ((x.f3.map fun s => withP x.f0 s (wrN d s)).getD 0 []).length ≤ _; omega) ((Ev.now _).is ?_)); exact ba_app [78, 79, 84, 32] _
  refine Ev.neg c9 ?_; rw [if_neg c9] at hL ⊢; by_cases c7 : x.f0 = 7
  ·refine Ev.pos c7 ?_; rw [if_pos c7] at hL ⊢; exact Ev.bind ((Ev.now _).congr fun k => join_tell _ [32, 65, 78, 68, 32] (by rw [List.length_map]; omega) hL) (Ev.now _)
  ·refine Ev.neg c7 ?_; rw [if_neg c7] at hL ⊢; exact Ev.bind ((Ev.now _).congr fun k => join_tell _ [32, 79, 82, 32] (by rw [List.length_map]; omega) hL) (Ev.now _)
end Go.Proofs.YtmgkpphbehamcaaGreatDoor.Pure
