
import Derived.Test.YtmgkpphbehamcaaGreatDoorPRd1
import Derived.Lib.SlTrimSet
namespace Go.Proofs.YtmgkpphbehamcaaGreatDoor.Pure
open Go Go.Gg Go.Gp Gf
set_option linter.unusedVariables false
set_option linter.unusedSimpArgs false
def digs : List UInt8 := [48, 49, 50, 51, 52, 53, 54, 55, 56, 57]
def numL (l : List UInt8) : Option Int := if l = [] ∨ 13 < l.length ∨ l.head? = some 48 ∧ l ≠ [48] ∨ Lib.trimS l digs ≠ [] then none else Lib.atoi l
theorem dropWhile_nil {α : Type} (p : α → Bool) : ∀ l : List α, l.dropWhile p = [] ↔ ∀ x ∈ l, p x = true
 | [] => by simp
 | b :: t => by
  by_cases h : p b = true
  ·rw [List.dropWhile_cons, if_pos h, dropWhile_nil p t]; simp [h]
  ·rw [List.dropWhile_cons, if_neg h]; simp [h]
theorem trim_all {l cs : List UInt8} (h : Lib.trimS l cs = []) : ∀ b ∈ l, cs.contains b = true := by
 unfold Lib.trimS Lib.trimLeftS Lib.trimRightS at h; rw [dropWhile_nil] at h; intro b hb; have hb' : b ∈ l.reverse := List.mem_reverse.2 hb; rw [← List.takeWhile_append_dropWhile (p := fun x => cs.contains x) (l := l.reverse)] at hb'; rcases List.mem_append.1 hb' with h1 | h1
 ·have := List.all_takeWhile (p := fun x => cs.contains x) (l := l.reverse); rw [List.all_eq_true] at this; exact this b h1
 ·exact h b (List.mem_reverse.2 h1)
theorem trim_none {l cs : List UInt8} (h : ∀ b ∈ l, cs.contains b = true) : Lib.trimS l cs = [] := by
 unfold Lib.trimS Lib.trimLeftS Lib.trimRightS; have : l.reverse.dropWhile (fun x => cs.contains x) = [] := (dropWhile_nil _ _).2 fun x hx => h x (List.mem_reverse.1 hx)
 rw [this]; rfl
theorem dig_val {b : UInt8} (h : digs.contains b = true) : ∃ d, Lib.digitVal b = some d := by
 have : b ∈ digs := by simpa using h
 unfold digs at this; simp only [List.mem_cons, List.not_mem_nil, or_false] at this; rcases this with rfl | rfl | rfl | rfl | rfl | rfl | rfl | rfl | rfl | rfl <;> exact ⟨_, rfl⟩
theorem decFrom_some : ∀ (l : List UInt8) (a : Nat), (∀ b ∈ l, digs.contains b = true) → ∃ n, Lib.decFrom a l = some n
 | [], a, _ => ⟨a, rfl⟩
 | b :: t, a, h => by
  obtain ⟨d, hd⟩ := dig_val (h b (by simp)); obtain ⟨n, hn⟩ := decFrom_some t (a * 10 + d) (fun x hx => h x (by simp [hx])); exact ⟨n, by rw [Lib.decFrom, hd]; exact hn⟩
theorem atoi_dig {l : List UInt8} (h0 : l ≠ []) (h : ∀ b ∈ l, digs.contains b = true) : ∃ n : Nat, Lib.decFrom 0 l = some n ∧ Lib.atoi l = some (n : Int) := by
 obtain ⟨n, hn⟩ := decFrom_some l 0 h; refine ⟨n, hn, ?_⟩
 cases l with
 | nil => exact absurd rfl h0
 | cons b t =>
  have hb := h b (by simp); have h1 : (b == 45) = false := by rw [beq_eq_false_iff_ne]; rintro rfl; revert hb; decide
  have h2 : (b == 43) = false := by rw [beq_eq_false_iff_ne]; rintro rfl; revert hb; decide
  simp only [Lib.atoi, h1, h2, Bool.false_eq_true, if_false, Lib.decNat, List.isEmpty_cons, hn, Option.map_some]
def numR (o : Option Int) : Int × Bool := match o with | some n => (n, true) | none => (0, false)
theorem number_eq {l : List UInt8} (hl : l.length ≤ 1000000) : ask_number (ba l) = some (numR (numL l)) := by
 unfold ask_number numL; have e0 : ((ba l).toList == (⟨#[]⟩ : ByteArray).toList) = decide (l = []) := ba_beq _ []; have e1 : ((ba l).toList == (⟨#[48]⟩ : ByteArray).toList) = decide (l = [48]) := ba_beq _ [48]; rw [e0, e1, ba_size]; by_cases h0 : l = []
 ·rw [if_pos (decide_eq_true h0), if_pos (.inl h0)]; rfl
 rw [if_neg (by simpa using h0)]; by_cases h1 : 13 < l.length
 ·rw [if_pos (by omega), if_pos (.inr (.inl h1))]; rfl
 rw [if_neg (by omega)]; obtain ⟨b, t, hbt⟩ : ∃ b t, l = b :: t := by cases l with | nil => exact absurd rfl h0 | cons b t => exact ⟨b, t, rfl⟩
 have hlen : 1 ≤ l.length := by rw [hbt]; simp
 rw [if_pos (by omega)]; have hb0 : bt (ba l) 0 = ((b.toNat : Nat) : Int) := by
  subst hbt; rfl
 have htr : strings_Trim (ba l) (⟨#[48, 49, 50, 51, 52, 53, 54, 55, 56, 57]⟩ : ByteArray) = some (ba (Lib.trimS l digs)) := by
  unfold strings_Trim; rw [if_pos ⟨by rw [ba_size]; omega, by decide, by decide⟩]; rfl
 rw [htr, Option.bind_some]; have e2 : ((ba (Lib.trimS l digs)).toList == (⟨#[]⟩ : ByteArray).toList) = decide (Lib.trimS l digs = []) := ba_beq _ []; rw [e2, hb0]; have hat : ∀ (ht : Lib.trimS l digs = []), ∃ n : Int, Lib.atoi l = some n := fun ht => by
  obtain ⟨n, _, hn⟩ := atoi_dig h0 (trim_all ht); exact ⟨_, hn⟩
 have fin : (if (!(decide (Lib.trimS l digs = []))) = true then some ((0 : Int), false) else (strconv_Atoi (ba l)).bind fun t17 => some (t17.1, true)) = some (numR (if Lib.trimS l digs ≠ [] then none else Lib.atoi l)) := by
  by_cases ht : Lib.trimS l digs = []
  ·obtain ⟨n, hn⟩ := hat ht; rw [if_neg (by simp [ht]), if_neg (by simp [ht]), hn]; unfold strconv_Atoi; rw [if_pos (by rw [ba_size]; omega), ba_data, hn]; rfl
  ·rw [if_pos (by simp [ht]), if_pos ht]; rfl
 by_cases h2 : b = 48
 ·rw [if_pos (by rw [h2]; rfl)]; by_cases h3 : l = [48]
  ·rw [if_neg (by simp [h3]), Option.bind_some, fin]
   congr 2
   by_cases ht : Lib.trimS l digs = []
   ·rw [if_neg (by simpa using ht), if_neg (by simp [h3, ht]; rw [h3] at ht; exact ht)]
   ·rw [if_pos ht, if_pos (.inr (.inr (.inr ht)))]
  ·rw [if_pos (by simp [h3]), Option.bind_some, if_pos rfl, if_pos (.inr (.inr (.inl ⟨by rw [hbt, h2]; rfl, h3⟩)))]; rfl
 ·rw [if_neg (fun e => h2 (UInt8.toNat_inj.1 (by have : (48 : UInt8).toNat = 48 := rfl; omega))), Option.bind_some, fin]
  congr 2
  by_cases ht : Lib.trimS l digs = []
  ·rw [if_neg (by simpa using ht), if_neg]; rintro (h | h | ⟨h, _⟩ | h)
   ·exact h0 h
   ·exact h1 h
   ·rw [hbt] at h; exact h2 (by simpa using h)
   ·exact h ht
  ·rw [if_pos ht, if_pos (.inr (.inr (.inr ht)))]
def toldL (it w : List UInt8) : Option Int := if Lib.hasPrefix it w = true then numL (it.drop w.length) else none
theorem told_eq {it w : List UInt8} (hl : it.length ≤ 1000000) : ask_told (ba it) (ba w) = some (numR (toldL it w)) := by
 unfold ask_told strings_CutPrefix toldL Lib.trimPrefix; rw [Option.bind_some]; simp only [ba_data]; by_cases h : Lib.hasPrefix it w = true
 ·simp only [h, if_true, Bool.not_true, Bool.false_eq_true, if_false]; have := number_eq (l := it.drop w.length) (by rw [List.length_drop]; omega); unfold ba at this; rw [this, Option.bind_some]
 ·simp only [h, Bool.not_eq_true, Bool.false_eq_true, if_false, Bool.not_false, if_true]; simp only [Bool.not_eq_true] at h; simp [h, numR]
def signB (w : ByteArray) : Bool := decide (w = ba [65, 78, 68]) || (decide (w = ba [79, 82]) || decide (w = ba [78, 79, 84]))
theorem sign_eq (w : ByteArray) : ask_sign w = some (signB w) := by
 unfold ask_sign signB; have e1 : (w.toList == (⟨#[65, 78, 68]⟩ : ByteArray).toList) = decide (w = ba [65, 78, 68]) := toList_beq _ _; have e2 : (w.toList == (⟨#[79, 82]⟩ : ByteArray).toList) = decide (w = ba [79, 82]) := toList_beq _ _; have e3 : (w.toList == (⟨#[78, 79, 84]⟩ : ByteArray).toList) = decide (w = ba [78, 79, 84]) := toList_beq _ _; rw [e1, e2, e3]; by_cases h1 : w = ba [65, 78, 68]
 ·simp [h1]
 ·by_cases h2 : w = ba [79, 82]
  ·simp [h1, h2]
  ·simp [h1, h2]
def okW (kind : Int) (w : ByteArray) : Bool := oneD w && (decide (kind = 3) || !(signB w))
def failP (p : PS) : T26 × PS := (⟨0, 0, [], []⟩, ⟨p.rest, p.over, true⟩)
def wordsP (kind : Int) (ws : List ByteArray) (p : PS) : T26 × PS := if ws.all (okW kind) = true then (⟨kind, 0, ws.map normD, []⟩, p) else failP p
theorem words_round (a0 : T60) (kind : Int) (l : List ByteArray) (hl : l.length ≤ 1000000) (hw : ∀ w ∈ l, w.size ≤ 1000000) : ∀ (n i : Nat), i + n = l.length → (l.take i).all (okW kind) = true →
  Ev (fun k => ask_reader_words_l0 a0 kind l k (i : Int) (⟨kind, 0, (l.take i).map normD, []⟩ : T26))
   (if l.all (okW kind) = true then Sum.inr (⟨kind, 0, l.map normD, []⟩ : T26) else Sum.inl ((⟨0, 0, [], []⟩ : T26), (⟨a0.f0, a0.f1, a0.f2, true⟩ : T60)))
 | 0, i, hi, ha => by
  obtain rfl : i = l.length := by omega
  rw [List.take_length] at ha ⊢; rw [if_pos ha]; exact Ev.step (fun k => by rw [ask_reader_words_l0]) (Ev.neg (by omega) (Ev.now _))
 | n + 1, i, hi, ha => by
  have hil : i < l.length := by omega
  refine Ev.step (fun k => by rw [ask_reader_words_l0]) (Ev.pos (by omega) (Ev.pos (by omega) ?_)); rw [Int.toNat_natCast]; have hm := getD_mem l (⟨#[]⟩ : ByteArray) hil; have hs := hw _ hm; refine Ev.bind (Ev.now _) ?_; have htk : l.take (i + 1) = l.take i ++ [l.getD i (⟨#[]⟩ : ByteArray)] := take_getD _ _ hil; generalize l.getD i (⟨#[]⟩ : ByteArray) = w at hm hs htk ⊢; have hok : Ev (fun _ => ((tokens_One w).bind fun t15 => (if (!t15) = true then some true else (if ¬ kind = 3 then ((ask_sign w).bind fun t21 => some t21) else some false)))) (!(okW kind w)) := by
   rw [One_ev (by omega), Option.bind_some, sign_eq, Option.bind_some]; unfold okW; by_cases h1 : oneD w = true
   ·rw [if_neg (by simp [h1]), h1]; by_cases h3 : kind = 3
    ·rw [if_neg (by simpa using h3)]; exact (Ev.now _).is (by simp [h3])
    ·rw [if_pos h3]; exact (Ev.now _).is (by simp [h3])
   ·rw [if_pos (by simp [h1])]; exact (Ev.now _).is (by simp [h1])
  refine Ev.bind hok ?_; by_cases h : okW kind w = true
  ·refine Ev.neg (by simp [h]) ?_; have hN : tokens_Norm w = some (normD w) := Norm_eq (by omega); rw [hN]; refine Ev.bind (Ev.now _) ?_; refine Ev.pos (by simp; omega) ?_; rw [i64w (by omega)]; have := words_round a0 kind l hl hw n (i + 1) (by omega) (by rw [htk, List.all_append, ha]; simp [h]); rw [htk, List.map_append] at this; exact this
  ·refine Ev.pos (by simp [h]) ?_; rw [if_neg (fun e => h (List.all_eq_true.1 e _ hm))]; exact Ev.now _
theorem words_eq {s : List UInt8} (p : PS) (kind : Int) (l : List ByteArray) (hl : l.length ≤ 1000000) (hw : ∀ w ∈ l, w.size ≤ 1000000) :
  Ev (fun k => ask_reader_words k (st s p) kind l) ((wordsP kind l p).1, st s (wordsP kind l p).2) := by
 unfold ask_reader_words wordsP; have h := words_round (st s p) kind l hl hw l.length 0 (by omega) (by simp); by_cases ha : l.all (okW kind) = true
 ·rw [if_pos ha] at h ⊢; exact Ev.bind h (Ev.now _)
 ·rw [if_neg ha] at h ⊢; exact Ev.bind h (Ev.now _)
def splitW (c : UInt8) (l : List UInt8) : List ByteArray := Lib.splitB (ba [c]) 0 (Lib.countB (ba l) (ba [c])) (ba l)
theorem split_size (sep : ByteArray) (sv : Nat) : ∀ (k : Nat) (s : ByteArray), ∀ w ∈ Lib.splitB sep sv k s, w.size ≤ s.size
 | 0, s, w, h => by rw [Lib.splitB_zero] at h; simp at h; rw [h]; exact Nat.le_refl _
 | k + 1, s, w, h => by
  rw [Lib.splitB] at h
  split at h
  ·simp at h; rw [h]; exact Nat.le_refl _
  ·rcases List.mem_cons.1 h with rfl | h
   ·rw [ByteArray.size_extract]; omega
   ·have := split_size sep sv k _ w h; rw [ByteArray.size_extract] at this; omega
theorem split_len (c : UInt8) (l : List UInt8) : (splitW c l).length ≤ l.length + 1 := by
 have h1 : (splitW c l).length = Lib.countB (ba l) (ba [c]) + 1 := Lib.splitB_all (ba [c]) (by decide +kernel : 1 ≤ 1) 0 _ (ba l) rfl; have h2 := Lib.countB_le (ba [c]) (by decide +kernel : 1 ≤ 1) (ba l).size (ba l) (Nat.le_refl _); rw [ba_size] at h2; omega
theorem split_eq (c : UInt8) {l : List UInt8} (hl : l.length ≤ 1000000) : strings_Split (ba l) (ba [c]) = some (splitW c l) := by
 unfold strings_Split; rw [if_pos ⟨by rw [ba_size]; omega, by rw [ba_size]; simp⟩]; rfl
def FROM : List UInt8 := [102, 114, 111, 109, 58]
def SINCE : List UInt8 := [115, 105, 110, 99, 101, 58]
def UNTIL : List UInt8 := [117, 110, 116, 105, 108, 58]
def leafP (it : List UInt8) (p : PS) : T26 × PS :=
 match toldL it FROM with
 | some n => (⟨4, n, [], []⟩, p)
 | none => match toldL it SINCE with
  | some n => (⟨5, n, [], []⟩, p)
  | none => match toldL it UNTIL with
   | some n => (⟨6, n, [], []⟩, p)
   | none =>
    if it.head? = some 34 then (if Lib.hasSuffix it.tail [34] = true then wordsP 3 (splitW 32 (it.tail.take (it.tail.length - 1))) p else failP p)
    else if Lib.hasSuffix it [42] = true then wordsP 2 [ba (it.take (it.length - 1))] p
    else wordsP 1 [ba it] p
theorem leaf_eq {s : List UInt8} (p : PS) {it : List UInt8} (hl : it.length ≤ 100000) : Ev (fun k => ask_reader_leaf k (st s p) (ba it)) ((leafP it p).1, st s (leafP it p).2) := by
 unfold ask_reader_leaf; refine Ev.name fun v5 hv5 => Ev.name fun v8 hv8 => ?_
 have hv8' : v8 = 3 := hv8; have g0 : v5.getD (0 : Int).toNat (⟨#[]⟩ : ByteArray) = ba FROM := by rw [hv5]; rfl
 have g1 : v5.getD (1 : Int).toNat (⟨#[]⟩ : ByteArray) = ba SINCE := by rw [hv5]; rfl
 have g2 : v5.getD (2 : Int).toNat (⟨#[]⟩ : ByteArray) = ba UNTIL := by rw [hv5]; rfl
 have hlen : (v5.length : Int) = 3 := by rw [hv5]; rfl
 have t0 := told_eq (it := it) (w := FROM) (by omega); have t1 := told_eq (it := it) (w := SINCE) (by omega); have t2 := told_eq (it := it) (w := UNTIL) (by omega)
 -- the three words
 have key : Ev (fun k => ask_reader_leaf_l0 (st s p) (ba it) v5 v8 k 0) (match toldL it FROM with
   | some n => Sum.inl ((⟨4, n, [], []⟩ : T26), st s p)
   | none => match toldL it SINCE with
    | some n => Sum.inl ((⟨5, n, [], []⟩ : T26), st s p)
    | none => match toldL it UNTIL with
     | some n => Sum.inl ((⟨6, n, [], []⟩ : T26), st s p)
     | none => Sum.inr ()) := by
  refine Ev.step (fun k => by rw [ask_reader_leaf_l0]) (Ev.pos (by omega) (Ev.pos (by omega) ?_)); rw [g0]; refine Ev.bind (Ev.now _) ?_; rw [t0]; refine Ev.bind (Ev.now _) ?_
  cases toldL it FROM with
  | some n => exact Ev.pos rfl ((Ev.now _).is (by rw [i64w (by omega)]; rfl))
  | none =>
  refine Ev.neg (by simp [numR]) ?_; rw [i64w (by omega)]; refine Ev.step (fun k => by rw [ask_reader_leaf_l0]) (Ev.pos (by omega) (Ev.pos (by omega) ?_)); rw [show ((0 : Int) + 1) = 1 from rfl, g1]; refine Ev.bind (Ev.now _) ?_; rw [t1]; refine Ev.bind (Ev.now _) ?_
  cases toldL it SINCE with
  | some n => exact Ev.pos rfl ((Ev.now _).is (by rw [i64w (by omega)]; rfl))
  | none =>
  refine Ev.neg (by simp [numR]) ?_; rw [i64w (by omega)]; refine Ev.step (fun k => by rw [ask_reader_leaf_l0]) (Ev.pos (by omega) (Ev.pos (by omega) ?_)); rw [show ((1 : Int) + 1) = 2 from rfl, g2]; refine Ev.bind (Ev.now _) ?_; rw [t2]; refine Ev.bind (Ev.now _) ?_
  cases toldL it UNTIL with
  | some n => exact Ev.pos rfl ((Ev.now _).is (by rw [i64w (by omega)]; rfl))
  | none =>
  refine Ev.neg (by simp [numR]) ?_; rw [i64w (by omega)]; exact Ev.step (fun k => by rw [ask_reader_leaf_l0]) (Ev.neg (by omega) (Ev.now _))
 refine Ev.bind key ?_; unfold leafP
 cases toldL it FROM with
 | some n => exact Ev.now _
 | none =>
 cases toldL it SINCE with
 | some n => exact Ev.now _
 | none =>
 cases toldL it UNTIL with
 | some n => exact Ev.now _
 | none =>
 dsimp only
 unfold strings_CutPrefix; refine Ev.bind (Ev.now _) ?_; have hq : Lib.hasPrefix (ba it).data.toList (⟨#[34]⟩ : ByteArray).data.toList = decide (it.head? = some 34) := has_one 34 it; rw [hq]; unfold strings_CutSuffix; by_cases h0 : it.head? = some 34
 ·rw [if_pos h0]; refine Ev.pos (decide_eq_true h0) ?_; have et : (⟨(Lib.trimPrefix (ba it).data.toList (⟨#[34]⟩ : ByteArray).data.toList).toArray⟩ : ByteArray) = ba it.tail := by
   unfold Lib.trimPrefix; rw [hq, if_pos (decide_eq_true h0)]; show ba (it.drop 1) = _; rw [List.drop_one]
  rw [et]; rw [if_pos (by rw [ba_size]; rw [List.length_tail]; omega)]; refine Ev.bind (Ev.now _) ?_; have hsf : Lib.hasSuffix (ba it.tail).data.toList (⟨#[34]⟩ : ByteArray).data.toList = Lib.hasSuffix it.tail [34] := rfl; rw [hsf]; by_cases h1 : Lib.hasSuffix it.tail [34] = true
  ·rw [if_pos h1]; refine Ev.neg (by simp [h1]) ?_; have et2 : (⟨(Lib.trimSuffix (ba it.tail).data.toList (⟨#[34]⟩ : ByteArray).data.toList).toArray⟩ : ByteArray) = ba (it.tail.take (it.tail.length - 1)) := by
    unfold Lib.trimSuffix; rw [hsf, if_pos h1]; rfl
   rw [et2]; have hsp := split_eq 32 (l := it.tail.take (it.tail.length - 1)) (by rw [List.length_take, List.length_tail]; omega); unfold ba at hsp; refine Ev.bind ((Ev.now _).congr fun k => hsp) ?_; have hlen2 := split_len 32 (it.tail.take (it.tail.length - 1)); have hlt : (it.tail.take (it.tail.length - 1)).length ≤ 100000 := by rw [List.length_take, List.length_tail]; omega
   exact Ev.bind (words_eq p 3 _ (by omega) (fun w hw => by have := split_size _ _ _ _ w hw; rw [ba_size] at this; omega)) (Ev.now _)
  ·rw [if_neg h1]; refine Ev.pos (by simpa using h1) ?_; rw [fail_eq]; exact Ev.bind (Ev.now _) (Ev.now _)
 ·rw [if_neg h0]; refine Ev.neg (by simpa using h0) ?_; rw [if_pos (by rw [ba_size]; omega)]; refine Ev.bind (Ev.now _) ?_; have hsf : Lib.hasSuffix (ba it).data.toList (⟨#[42]⟩ : ByteArray).data.toList = Lib.hasSuffix it [42] := rfl; rw [hsf]; by_cases h1 : Lib.hasSuffix it [42] = true
  ·rw [if_pos h1]; refine Ev.pos h1 ?_; have et2 : (⟨(Lib.trimSuffix (ba it).data.toList (⟨#[42]⟩ : ByteArray).data.toList).toArray⟩ : ByteArray) = ba (it.take (it.length - 1)) := by
    unfold Lib.trimSuffix; rw [hsf, if_pos h1]; rfl
   rw [et2]; exact Ev.bind (words_eq p 2 _ (by simp) (fun w hw => by simp at hw; rw [hw, ba_size, List.length_take]; omega)) (Ev.now _)
  ·rw [if_neg h1]; refine Ev.neg h1 ?_; exact Ev.bind (words_eq p 1 _ (by simp) (fun w hw => by simp at hw; rw [hw, ba_size]; omega)) (Ev.now _)
end Go.Proofs.YtmgkpphbehamcaaGreatDoor.Pure
