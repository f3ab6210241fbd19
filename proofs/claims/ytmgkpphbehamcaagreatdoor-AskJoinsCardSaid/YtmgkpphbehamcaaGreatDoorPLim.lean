/- What is read without a limit or a cursor has none in its text. -/
import Derived.Test.YtmgkpphbehamcaaGreatDoorF4
import Derived.Test.YtmgkpphbehamcaaGreatDoorPSim
namespace Go.Proofs.YtmgkpphbehamcaaGreatDoor.Pure
open Go Go.Gg Go.Gp Gf
set_option linter.unusedVariables false
set_option linter.unusedSimpArgs false
def splitL (c : UInt8) : List UInt8 → List (List UInt8)
 | [] => [[]]
 | b :: t => if b = c then [] :: splitL c t else match splitL c t with
  | [] => [[b]]
  | h :: r => (b :: h) :: r
theorem splitL_ne (c : UInt8) : ∀ l, splitL c l ≠ []
 | [] => by simp [splitL]
 | b :: t => by
  rw [splitL]
  split
  ·simp
  ·split <;> simp
theorem splitK_eq (c : UInt8) : ∀ l : List UInt8, Lib.splitK [c] 0 (l.count c) l = splitL c l
 | [] => rfl
 | b :: t => by
  have ih := splitK_eq c t; rw [splitL]; by_cases h : b = c
  ·subst h; rw [if_pos rfl, List.count_cons_self, Lib.splitK]; have hi : Lib.index (b :: t) [b] = 0 := by rw [Lib.index]; simp [List.isPrefixOf]
   rw [hi, if_neg (by decide)]; simp [ih]
  ·rw [if_neg h, List.count_cons_of_ne (fun e => h e)]
   cases hk : t.count c with
   | zero =>
    rw [hk, Lib.splitK] at ih; rw [← ih, Lib.splitK]
   | succ k =>
    rw [hk] at ih; have hm : c ∈ t := List.count_pos_iff.1 (by omega); have hi : Lib.index t [c] = ((t.takeWhile (· != c)).length : Int) := by rw [index_one, indexByte_eq, if_pos hm]
    have hi2 : Lib.index (b :: t) [c] = ((t.takeWhile (· != c)).length : Int) + 1 := by
     rw [index_one, indexByte_eq, if_pos (List.mem_cons_of_mem _ hm)]; simp [List.takeWhile_cons, h]
    generalize (t.takeWhile (· != c)).length = j at hi hi2; rw [Lib.splitK, hi, if_neg (by rw [beq_iff_eq]; omega)] at ih; rw [← ih, Lib.splitK, hi2, if_neg (by rw [beq_iff_eq]; omega)]; have e1 : ((j : Int) + 1).toNat = j + 1 := by omega
    have e2 : (j : Int).toNat = j := by omega
    rw [e1, e2]; simp only [Nat.add_zero, List.take_succ_cons, List.length_singleton, List.drop_succ_cons]
theorem splitW_eq (c : UInt8) (l : List UInt8) : splitW c l = (splitL c l).map ba := by
 unfold splitW; have h := Lib.splitB_data (ba [c]) 0 (Lib.countB (ba l) (ba [c])) (ba l); have hc : Lib.countB (ba l) (ba [c]) = l.count c := Lib.count_one c l; rw [hc] at h ⊢; have h2 : (Lib.splitB (ba [c]) 0 (l.count c) (ba l)).map (fun x => x.data.toList) = splitL c l := h.trans (splitK_eq c l); rw [← h2, List.map_map]; exact (List.map_id' _).symm
theorem splitL_mem {c b : UInt8} (hb : b ≠ c) : ∀ l : List UInt8, b ∈ l → ∃ w ∈ splitL c l, b ∈ w
 | [], h => by cases h
 | x :: t, h => by
  rw [splitL]; by_cases hx : x = c
  ·rw [if_pos hx]; have ht : b ∈ t := by
    rcases List.mem_cons.1 h with h | h
    ·exact absurd (h.trans hx) hb
    ·exact h
   obtain ⟨w, hw, hm⟩ := splitL_mem hb t ht; exact ⟨w, List.mem_cons_of_mem _ hw, hm⟩
  ·rw [if_neg hx]
   cases hs : splitL c t with
   | nil => exact absurd hs (splitL_ne c t)
   | cons u r =>
    dsimp only
    rcases List.mem_cons.1 h with h | h
    ·exact ⟨x :: u, List.mem_cons_self, by rw [h]; exact List.mem_cons_self⟩
    ·obtain ⟨w, hw, hm⟩ := splitL_mem hb t h; rw [hs] at hw; rcases List.mem_cons.1 hw with rfl | hw
     ·exact ⟨x :: w, List.mem_cons_self, List.mem_cons_of_mem _ hm⟩
     ·exact ⟨w, List.mem_cons_of_mem _ hw, hm⟩
def noLim (l : List UInt8) : Prop := ∀ i, ¬ LIMIT <+: l.drop i ∧ ¬ AFTER <+: l.drop i
theorem pre_app {L a b : List UInt8} (hL : (32 : UInt8) ∉ L) (h : L <+: a ++ 32 :: b) : L <+: a := by
 obtain ⟨t, ht⟩ := h; by_cases hl : L.length ≤ a.length
 ·exact List.prefix_of_prefix_length_le ⟨t, ht⟩ (List.prefix_append _ _) hl
 ·exfalso; have : (L ++ t)[a.length]? = (a ++ 32 :: b)[a.length]? := by rw [ht]
  rw [List.getElem?_append_left (by omega), List.getElem?_append_right (Nat.le_refl _), Nat.sub_self] at this; exact hL (List.mem_of_getElem? (this.trans rfl))
theorem noLim_app {a b : List UInt8} (ha : noLim a) (hb : noLim b) : noLim (a ++ 32 :: b) := by
 intro i; by_cases hi : i ≤ a.length
 ·rw [List.drop_append_of_le_length hi]; exact ⟨fun h => (ha i).1 (pre_app (by decide) h), fun h => (ha i).2 (pre_app (by decide) h)⟩
 ·have : (a ++ 32 :: b).drop i = b.drop (i - (a.length + 1)) := by
   rw [List.drop_append]; have e : i - a.length = (i - (a.length + 1)) + 1 := by omega
   rw [e, List.drop_succ_cons, List.drop_of_length_le (by omega), List.nil_append]
  rw [this]; exact hb _
theorem numL_digs {l : List UInt8} {n : Int} (h : numL l = some n) : ∀ b ∈ l, digs.contains b = true := by
 unfold numL at h
 split at h
 ·cases h
 ·rename_i hc
  exact trim_all (by
   cases ht : Lib.trimS l digs with
   | nil => rfl
   | cons a b => exact absurd (.inr (.inr (.inr (by rw [ht]; simp)))) hc)
def Con (p q : PS) : Prop := (q.over = false → ∃ c, p.rest = c ++ 32 :: q.rest ∧ noLim c) ∧ (q.over = true → noLim p.rest)
theorem Con.trans {p q r : PS} (h : Con p q) (hq : q.over = false) (k : Con q r) : Con p r := by
 obtain ⟨c, hc, hn⟩ := h.1 hq; refine ⟨fun ho => ?_, fun ho => ?_⟩
 ·obtain ⟨d, hd, hm⟩ := k.1 ho; exact ⟨c ++ 32 :: d, by rw [hc, hd]; simp, noLim_app hn hm⟩
 ·rw [hc]; exact noLim_app hn (k.2 ho)
theorem itemL_pre (l : List UInt8) : itemL l <+: l := by
 unfold itemL
 split
 ·rename_i h
  obtain ⟨h1, h2⟩ := h
  cases l with
  | nil => cases h1
  | cons b t =>
   obtain rfl : b = 34 := by simpa using h1
   simp only [List.tail_cons] at h2 ⊢; rw [List.prefix_cons_inj]; have key : ∀ u : List UInt8, (34 : UInt8) ∈ u → u.takeWhile (· != 34) ++ [34] <+: u := by
    intro u
    induction u with
    | nil => intro h; cases h
    | cons x v ih =>
     intro hm; by_cases hx : x = 34
     ·subst hx; simp
     ·have hv : (34 : UInt8) ∈ v := by
       rcases List.mem_cons.1 hm with h | h
       ·exact absurd h.symm hx
       ·exact h
      have hx' : (x != 34) = true := by simpa using hx
      rw [List.takeWhile_cons, if_pos hx', List.cons_append, List.prefix_cons_inj]; exact ih hv
   exact key t h2
 ·exact List.takeWhile_prefix _
theorem nextP_pre (p : PS) : nextP p <+: p.rest := by
 unfold nextP
 split
 ·exact List.nil_prefix
 ·exact itemL_pre _
theorem ending_ev {s : List UInt8} (hs : s.length ≤ 1000000) : ∃ b, Ev (fun k => grapevinelaw14_ending k (ba s)) b ∧ (b = true ↔ noLim s) := by
 obtain ⟨r, hr, hE⟩ := Ev.loop (F := fun k (i : Int) => grapevinelaw14_ending_l0 (ba s) k i) (fun i n => 0 ≤ i ∧ i + n = s.length ∧ ∀ j : Nat, (j : Int) < i → ¬ LIMIT <+: s.drop j ∧ ¬ AFTER <+: s.drop j)
  (fun r => (r = Sum.inl false ∧ ¬ noLim s) ∨ (r = Sum.inr () ∧ noLim s)) (fun i n hI => by
   obtain ⟨h0, hn, hall⟩ := hI; have hit : ((i.toNat : Nat) : Int) = i := by omega
   by_cases hc : i + 6 ≤ (s.length : Int)
   ·have hx : ∀ L : List UInt8, L.length = 6 → (((ba s).extract i.toNat (IntKind.i64.wrap (i + 6)).toNat).toList == (ba L).toList) = decide (L <+: s.drop i.toNat) := by
     intro L hL; rw [i64w (by omega), ba_extract, ba_beq]; have e : (i + 6).toNat = i.toNat + 6 := by omega
     rw [e, List.drop_take, Nat.add_sub_cancel_left]; rw [decide_eq_decide, List.prefix_iff_eq_take, hL]; exact eq_comm
    have hcond : 0 ≤ i ∧ i ≤ IntKind.i64.wrap (i + 6) ∧ IntKind.i64.wrap (i + 6) ≤ ((ba s).size : Int) := by rw [i64w (by omega), ba_size]; omega
    have htest : (if 0 ≤ i ∧ i ≤ (IntKind.i64.wrap (i + 6)) ∧ (IntKind.i64.wrap (i + 6)) ≤ ((ba s).size : Int) then (if (((ba s).extract i.toNat (IntKind.i64.wrap (i + 6)).toNat).toList == (⟨#[108, 105, 109, 105, 116, 58]⟩ : ByteArray).toList) = true then some true else (if 0 ≤ i ∧ i ≤ (IntKind.i64.wrap (i + 6)) ∧ (IntKind.i64.wrap (i + 6)) ≤ ((ba s).size : Int) then some (((ba s).extract i.toNat (IntKind.i64.wrap (i + 6)).toNat).toList == (⟨#[97, 102, 116, 101, 114, 58]⟩ : ByteArray).toList) else none)) else none) = some (decide (LIMIT <+: s.drop i.toNat ∨ AFTER <+: s.drop i.toNat)) := by
     rw [if_pos hcond, if_pos hcond]; have h1 : (((ba s).extract i.toNat (IntKind.i64.wrap (i + 6)).toNat).toList == (⟨#[108, 105, 109, 105, 116, 58]⟩ : ByteArray).toList) = _ := hx LIMIT rfl; have h2 : (((ba s).extract i.toNat (IntKind.i64.wrap (i + 6)).toNat).toList == (⟨#[97, 102, 116, 101, 114, 58]⟩ : ByteArray).toList) = _ := hx AFTER rfl; by_cases c1 : LIMIT <+: s.drop i.toNat
     ·rw [if_pos (h1.trans (decide_eq_true c1)), decide_eq_true (.inl c1)]
     ·rw [if_neg (by rw [h1, decide_eq_false c1]; simp)]; rw [h2]
      congr 1
      rw [decide_eq_decide]; exact ⟨.inr, fun e => e.elim (fun e => absurd e c1) id⟩
    by_cases hp : LIMIT <+: s.drop i.toNat ∨ AFTER <+: s.drop i.toNat
    ·refine .inl ⟨Sum.inl false, .inl ⟨rfl, fun hno => ?_⟩, ?_⟩
     ·rcases hp with hp | hp
      ·exact (hno _).1 hp
      ·exact (hno _).2 hp
     ·refine Ev.step (fun k => by rw [grapevinelaw14_ending_l0]) (Ev.pos (by rw [i64w (by omega), ba_size]; omega) ?_); rw [htest]; exact Ev.bind (Ev.now _) (Ev.pos (decide_eq_true hp) (Ev.now _))
    ·refine .inr ⟨i + 1, n - 1, by omega, ⟨by omega, by omega, fun j hj => ?_⟩, fun r H => ?_⟩
     ·by_cases e : (j : Int) < i
      ·exact hall j e
      ·have : j = i.toNat := by omega
       rw [this]; exact ⟨fun e => hp (.inl e), fun e => hp (.inr e)⟩
     ·refine Ev.step (fun k => by rw [grapevinelaw14_ending_l0]) (Ev.pos (by rw [i64w (by omega), ba_size]; omega) ?_); rw [htest]; refine Ev.bind (Ev.now _) (Ev.neg (by simpa using hp) ?_); rw [i64w (by omega)]; exact H
   ·refine .inl ⟨Sum.inr (), .inr ⟨rfl, fun j => ?_⟩, ?_⟩
    ·by_cases e : (j : Int) < i
     ·exact hall j e
     ·have hlen : (s.drop j).length < 6 := by rw [List.length_drop]; omega
      exact ⟨fun h => by have := h.length_le; simp [LIMIT] at this; omega, fun h => by have := h.length_le; simp [AFTER] at this; omega⟩
    ·exact Ev.step (fun k => by rw [grapevinelaw14_ending_l0]) (Ev.neg (by rw [i64w (by omega), ba_size]; omega) (Ev.now _))) 0 s.length ⟨by omega, by omega, fun j hj => absurd hj (by omega)⟩
 unfold grapevinelaw14_ending; rcases hr with ⟨rfl, hno⟩ | ⟨rfl, hno⟩
 ·exact ⟨false, Ev.bind hE (Ev.now _), ⟨fun h => (by cases h), fun h => absurd h hno⟩⟩
 ·exact ⟨true, Ev.bind hE (Ev.now _), ⟨fun _ => hno, fun _ => rfl⟩⟩
end Go.Proofs.YtmgkpphbehamcaaGreatDoor.Pure
