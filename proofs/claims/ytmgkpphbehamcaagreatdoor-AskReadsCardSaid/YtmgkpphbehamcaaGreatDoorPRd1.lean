
import Derived.Test.YtmgkpphbehamcaaGreatDoorPAsk3
namespace Go.Proofs.YtmgkpphbehamcaaGreatDoor.Pure
open Go Go.Gg Go.Gp Gf
set_option linter.unusedVariables false
set_option linter.unusedSimpArgs false
def ba (l : List UInt8) : ByteArray := ⟨l.toArray⟩
theorem ba_data (l : List UInt8) : (ba l).data.toList = l := rfl
theorem ba_size (l : List UInt8) : (ba l).size = l.length := rfl
theorem ba_inj {l m : List UInt8} : ba l = ba m ↔ l = m := ⟨fun h => by have := congrArg (fun z => z.data.toList) h; exact this, fun h => h ▸ rfl⟩
theorem ba_app (l m : List UInt8) : ba l ++ ba m = ba (l ++ m) := by
 apply ByteArray.ext; apply Array.toList_inj.1; show (ba l ++ ba m).data.toList = l ++ m; rw [ByteArray.data_append, Array.toList_append]; rfl
theorem ba_extract (l : List UInt8) (a b : Nat) : (ba l).extract a b = ba ((l.take b).drop a) := by
 apply ByteArray.ext; apply Array.toList_inj.1; show ((ba l).extract a b).data.toList = _; rw [ByteArray.data_extract, Array.toList_extract, ba_data]; rw [List.extract_eq_take_drop, ba_data, List.drop_take]
theorem ba_beq (l m : List UInt8) : ((ba l).toList == (ba m).toList) = decide (l = m) := by
 rw [toList_beq]; exact decide_eq_decide.2 ba_inj
theorem has_one (c : UInt8) (l : List UInt8) : Lib.hasPrefix l [c] = decide (l.head? = some c) := by
 cases l with
 | nil => rfl
 | cons b t =>
  simp only [Lib.hasPrefix, List.isPrefixOf, List.head?_cons, Option.some.injEq, Bool.and_true]; by_cases h : c = b
  ·rw [decide_eq_true h.symm, beq_iff_eq.2 h]
  ·rw [decide_eq_false (fun e => h e.symm), beq_eq_false_iff_ne.2 h]
theorem indexByte_eq (c : UInt8) : ∀ l : List UInt8, Lib.indexByte l c = if c ∈ l then ((l.takeWhile (· != c)).length : Int) else -1
 | [] => rfl
 | b :: t => by
  rw [Lib.indexByte, indexByte_eq c t]; by_cases h : b = c
  ·subst h; simp
  ·have hb : (b == c) = false := by simpa using h
   have hm : c ∈ b :: t ↔ c ∈ t := ⟨fun e => (List.mem_cons.1 e).elim (fun e => absurd e.symm h) id, fun e => List.mem_cons_of_mem _ e⟩; rw [if_neg (by simp [hb])]; by_cases hc : c ∈ t
   ·rw [if_pos hc, if_pos (hm.2 hc)]; have : (((t.takeWhile (· != c)).length : Int) == -1) = false := beq_eq_false_iff_ne.2 (by omega); rw [this]; simp [List.takeWhile_cons, h]
   ·rw [if_neg hc, if_neg (fun e => hc (hm.1 e))]; rfl
theorem index_one (c : UInt8) : ∀ l : List UInt8, Lib.index l [c] = Lib.indexByte l c
 | [] => rfl
 | b :: t => by
  rw [Lib.index, Lib.indexByte, index_one c t]; have : ([c].isPrefixOf (b :: t)) = (b == c) := by simp only [List.isPrefixOf, Bool.and_true]; exact Bool.beq_comm
  rw [this]
theorem take_takeWhile {α : Type} (p : α → Bool) : ∀ l : List α, l.take (l.takeWhile p).length = l.takeWhile p
 | [] => rfl
 | b :: t => by
  by_cases h : p b = true
  ·simp [List.takeWhile_cons, h, take_takeWhile p t]
  ·simp [List.takeWhile_cons, h]
theorem takeWhile_self {α : Type} (p : α → Bool) : ∀ l : List α, (∀ x ∈ l, p x = true) → l.takeWhile p = l
 | [], _ => rfl
 | b :: t, h => by rw [List.takeWhile_cons, if_pos (h b (by simp)), takeWhile_self p t (fun x hx => h x (by simp [hx]))]
theorem cut_one (c : UInt8) (l : List UInt8) : (Lib.cut l [c]).1 = l.takeWhile (· != c) := by
 unfold Lib.cut; rw [index_one, indexByte_eq]; by_cases h : c ∈ l
 ·simp only [if_pos h]; rw [if_pos (by omega), Int.toNat_natCast]; exact take_takeWhile _ _
 ·simp only [if_neg h]; rw [if_neg (by decide), takeWhile_self]; intro x hx; simp only [bne_iff_ne, ne_eq]; exact fun e => h (e ▸ hx)
def itemL (l : List UInt8) : List UInt8 := if l.head? = some 34 ∧ 34 ∈ l.tail then 34 :: (l.tail.takeWhile (· != 34) ++ [34]) else l.takeWhile (· != 32)
structure PS where
 rest : List UInt8
 over : Bool
 bad : Bool
deriving DecidableEq
abbrev st (s : List UInt8) (p : PS) : T60 := ⟨ba s, (s.length : Int) - (p.rest.length : Int), p.over, p.bad⟩
def WF (s : List UInt8) (p : PS) : Prop := p.rest <:+ s ∧ s.length ≤ 100000
theorem WF.drop {s : List UInt8} {p : PS} (h : WF s p) : s.drop (s.length - p.rest.length) = p.rest := by
 obtain ⟨⟨t, rfl⟩, _⟩ := h; simp
theorem WF.le {s : List UInt8} {p : PS} (h : WF s p) : p.rest.length ≤ s.length := h.1.length_le
theorem cut_tell (l : List UInt8) (h : l.length ≤ 1000000) : strings_Cut (ba l) (⟨#[32]⟩ : ByteArray) = some (ba (l.takeWhile (· != 32)), ⟨(Lib.cut l [32]).2.1.toArray⟩, (Lib.cut l [32]).2.2) := by
 unfold strings_Cut; rw [if_pos (by rw [ba_size]; omega)]; rw [← cut_one]; rfl
theorem item_eq {s : List UInt8} {p : PS} (h : WF s p) : ask_text_item (st s p) = some (ba (itemL p.rest)) := by
 have hle := h.le; have hs := h.2; have hx : (ba s).extract ((s.length : Int) - (p.rest.length : Int)).toNat ((ba s).size : Int).toNat = ba p.rest := by
  rw [ba_extract, ba_size, Int.toNat_natCast, List.take_length]; have : ((s.length : Int) - (p.rest.length : Int)).toNat = s.length - p.rest.length := by omega
  rw [this, h.drop]
 unfold ask_text_item; simp only [st]; rw [if_pos (by rw [ba_size]; omega), hx, Option.bind_some]; unfold strings_HasPrefix; rw [Option.bind_some]; have hq : Lib.hasPrefix (ba p.rest).data.toList (⟨#[34]⟩ : ByteArray).data.toList = decide (p.rest.head? = some 34) := has_one 34 p.rest; rw [hq]; unfold itemL; by_cases hh : p.rest.head? = some 34
 ·rw [if_pos (decide_eq_true hh)]; obtain ⟨t, ht⟩ : ∃ t, p.rest = 34 :: t := by
   cases hr : p.rest with
   | nil => rw [hr] at hh; cases hh
   | cons b t => rw [hr] at hh; exact ⟨t, by simpa using hh⟩
  have hl : t.length + 1 ≤ 1000000 := by have := congrArg List.length ht; simp at this; omega
  rw [ht]; rw [if_pos (by rw [ba_size]; simp; omega)]; have e1 : (ba (34 :: t)).extract (1 : Int).toNat ((ba (34 :: t)).size : Int).toNat = ba t := by
   rw [ba_extract, ba_size, Int.toNat_natCast, List.take_length]; rfl
  rw [e1]; unfold strings_IndexByte; rw [Option.bind_some]; have e2 : Lib.indexByte (ba t).data.toList ((34 : Int).toNat.toUInt8) = _ := indexByte_eq 34 t; rw [e2]; by_cases hm : (34 : UInt8) ∈ t
  ·have hlen : (t.takeWhile (· != 34)).length ≤ t.length := (List.takeWhile_prefix _).length_le; have hlt : (t.takeWhile (· != 34)).length < t.length := by
    rcases Nat.lt_or_ge (t.takeWhile (· != 34)).length t.length with h' | h'
    ·exact h'
    ·have he : t.takeWhile (· != 34) = t := (List.takeWhile_prefix _).eq_of_length (by omega); rw [← he] at hm; have := List.all_takeWhile (p := fun x : UInt8 => x != 34) (l := t); rw [List.all_eq_true] at this; have := this _ hm; simp at this
   rw [if_pos hm, if_pos (by omega)]; rw [i64w (by omega), ba_size]; rw [if_pos (by simp; omega)]; rw [if_pos (by exact ⟨rfl, hm⟩)]; rw [ba_extract]
   congr 2
   have : (((t.takeWhile (· != 34)).length : Int) + 2).toNat = (t.takeWhile (· != 34)).length + 1 + 1 := by omega
   rw [this]; simp only [Int.toNat_zero, List.drop_zero, List.take_succ_cons, List.tail_cons]
   congr 1
   have key : ∀ l : List UInt8, (34 : UInt8) ∈ l → l.take ((l.takeWhile (· != 34)).length + 1) = l.takeWhile (· != 34) ++ [34] := by
    intro l
    induction l with
    | nil => intro h; cases h
    | cons b u ih =>
     intro hm; by_cases hb : b = 34
     ·subst hb; simp
     ·have hu : (34 : UInt8) ∈ u := by
       rcases List.mem_cons.1 hm with h' | h'
       ·exact absurd h'.symm hb
       ·exact h'
      simp [List.takeWhile_cons, hb, ih hu]
   exact key t hm
  ·rw [if_neg hm, if_neg (by decide), cut_tell _ (by simpa using hl), Option.bind_some]; rw [if_neg (fun e => hm (by simpa using e.2))]
 ·rw [if_neg (by simpa using hh), cut_tell _ (by omega), Option.bind_some, if_neg (fun e => hh e.1)]
def nextP (p : PS) : List UInt8 := if p.over = true ∨ p.bad = true then [] else itemL p.rest
theorem next_eq {s : List UInt8} {p : PS} (h : WF s p) : ask_reader_next (st s p) = some (ba (nextP p)) := by
 unfold ask_reader_next nextP; have hi := item_eq h; obtain ⟨r, o, b⟩ := p; simp only [st] at hi ⊢
 cases o <;> cases b <;> simp [hi] <;> rfl
def takeP (p : PS) : PS :=
 if nextP p = [] then ⟨p.rest, p.over, true⟩
 else if (nextP p).length = p.rest.length then ⟨[], true, p.bad⟩
 else if p.rest[(nextP p).length]? = some 32 then ⟨p.rest.drop ((nextP p).length + 1), p.over, p.bad⟩
 else ⟨p.rest.drop (nextP p).length, p.over, true⟩
theorem itemL_le (l : List UInt8) : (itemL l).length ≤ l.length := by
 unfold itemL; by_cases h : l.head? = some 34 ∧ 34 ∈ l.tail
 ·rw [if_pos h]; obtain ⟨h1, h2⟩ := h
  cases l with
  | nil => cases h1
  | cons b t =>
   simp only [List.tail_cons] at h2 ⊢; have hlt : (t.takeWhile (· != 34)).length < t.length := by
    rcases Nat.lt_or_ge (t.takeWhile (· != 34)).length t.length with h' | h'
    ·exact h'
    ·have he : t.takeWhile (· != 34) = t := (List.takeWhile_prefix _).eq_of_length (by have := (List.takeWhile_prefix (p := fun x : UInt8 => x != 34) (l := t)).length_le; omega); rw [← he] at h2; have := List.all_takeWhile (p := fun x : UInt8 => x != 34) (l := t); rw [List.all_eq_true] at this; have := this _ h2; simp at this
   simp; omega
 ·rw [if_neg h]; exact (List.takeWhile_prefix _).length_le
theorem nextP_le (p : PS) : (nextP p).length ≤ p.rest.length := by
 unfold nextP
 split
 ·simp
 ·exact itemL_le _
theorem nextP_no {p : PS} (h : nextP p ≠ []) : p.over = false ∧ p.bad = false := by
 unfold nextP at h; by_cases h1 : p.over = true ∨ p.bad = true
 ·rw [if_pos h1] at h; exact absurd rfl h
 ·cases ho : p.over <;> cases hb : p.bad <;> simp_all
theorem fail_eq (s : List UInt8) (p : PS) : ask_reader_fail (st s p) = some (⟨0, 0, [], []⟩, st s ⟨p.rest, p.over, true⟩) := rfl
theorem WF.suf {s : List UInt8} {p : PS} (h : WF s p) {q : PS} (hq : q.rest <:+ p.rest) : WF s q := ⟨hq.trans h.1, h.2⟩
theorem take_WF {s : List UInt8} {p : PS} (h : WF s p) : WF s (takeP p) := by
 refine h.suf ?_; unfold takeP
 split
 ·exact List.suffix_refl _
 ·split
  ·exact List.nil_suffix
  ·split
   ·exact List.drop_suffix _ _
   ·exact List.drop_suffix _ _
theorem take_eq {s : List UInt8} {p : PS} (h : WF s p) : ask_reader_take (st s p) = some (st s (takeP p)) := by
 have hle := h.le; have hs := h.2; have hn := nextP_le p; have hfail : ∀ x : T60, ask_reader_fail x = some (⟨0, 0, [], []⟩, ⟨x.f0, x.f1, x.f2, true⟩) := fun _ => rfl
 unfold ask_reader_take takeP; rw [next_eq h, Option.bind_some]; have e0 : ((ba (nextP p)).toList == (⟨#[]⟩ : ByteArray).toList) = decide (nextP p = []) := ba_beq _ []; rw [e0]; by_cases h0 : nextP p = []
 ·rw [if_pos (decide_eq_true h0), if_pos h0, fail_eq, Option.bind_some]
 ·obtain ⟨ho, hb⟩ := nextP_no h0; have hpos : 1 ≤ (nextP p).length := by
   cases hh : nextP p with
   | nil => exact absurd hh h0
   | cons => simp
  rw [if_neg (by simpa using h0), if_neg h0]; have e1 : IntKind.i64.wrap ((st s p).f1 + ((ba (nextP p)).size : Int)) = (s.length : Int) - (p.rest.length : Int) + ((nextP p).length : Int) := by
   show IntKind.i64.wrap ((s.length : Int) - (p.rest.length : Int) + ((nextP p).length : Int)) = _; rw [i64w (by omega)]
  rw [e1]; have e2 : ((st s p).f0.size : Int) = s.length := rfl; rw [e2]; by_cases hE : (nextP p).length = p.rest.length
  ·rw [if_pos (by omega), if_pos hE]; simp only [st, hb, Option.some.injEq, List.length_nil]
   congr 1
   omega
  ·rw [if_neg (by omega), if_neg hE, if_pos (by omega)]; have hbt : bt (st s p).f0 ((s.length : Int) - (p.rest.length : Int) + ((nextP p).length : Int)) = (((p.rest.getD (nextP p).length 0).toNat : Nat) : Int) := by
    have hd := h.drop; show bt (ba s) _ = _; have hidx : ((s.length : Int) - (p.rest.length : Int) + ((nextP p).length : Int)).toNat = s.length - p.rest.length + (nextP p).length := by omega
    have hg : (p.rest.getD (nextP p).length 0) = s.getD (s.length - p.rest.length + (nextP p).length) 0 := by
     rw [← hd, List.getD_eq_getElem?_getD, List.getElem?_drop, ← List.getD_eq_getElem?_getD, hd]
    rw [hg]; unfold bt; rw [hidx, dif_pos (by rw [ba_size]; omega), getD_eq _ _ (by omega)]; rfl
   rw [hbt]; have hget : p.rest[(nextP p).length]? = some (p.rest.getD (nextP p).length 0) := by
    rw [getD_eq _ _ (by omega), List.getElem?_eq_getElem (by omega)]
   rw [hget]; by_cases h3 : p.rest.getD (nextP p).length 0 = 32
   ·rw [if_pos (by rw [h3]; rfl), if_pos (by rw [h3])]; rw [i64w (by omega)]; simp only [st, List.length_drop, Option.some.injEq]
    congr 1
    omega
   ·rw [if_neg (fun e => h3 (UInt8.toNat_inj.1 (by have : (32 : UInt8).toNat = 32 := rfl; omega))), if_neg (by simpa using h3)]; rw [hfail, Option.bind_some]; simp only [st, List.length_drop, Option.some.injEq]
    congr 1
    omega
end Go.Proofs.YtmgkpphbehamcaaGreatDoor.Pure
