
import Derived.Test.YtmgkpphbehamcaaGreatDoorPRd4
namespace Go.Proofs.YtmgkpphbehamcaaGreatDoor.Pure
open Go Go.Gg Go.Gp Gf
set_option linter.unusedVariables false
set_option linter.unusedSimpArgs false
def LIMIT : List UInt8 := [108, 105, 109, 105, 116, 58]
def AFTER : List UInt8 := [97, 102, 116, 101, 114, 58]
def numsL : List ByteArray → Option (List Int)
 | [] => some []
 | w :: t => match numL w.data.toList with
  | none => none
  | some n => (numsL t).map (n :: ·)
def badP (p : PS) : PS := ⟨p.rest, p.over, true⟩
def afterP (p : PS) (q : T34) : PS × T34 :=
 if Lib.hasPrefix (nextP p) AFTER = true then
  match numsL (splitW 46 ((nextP p).drop 6)) with
  | none => (badP (takeP p), q)
  | some ns => if ns.length ≠ 4 ∨ ns.getD 3 0 = 0 then (badP (takeP p), q) else (takeP p, ⟨q.f0, q.f1, q.f2, q.f3, q.f4, ns.getD 2 0, ns.getD 3 0, ns.getD 0 0, ns.getD 1 0, q.f9⟩)
 else (p, q)
def setLimit (q : T34) (n : Int) : T34 := ⟨q.f0, q.f1, q.f2, q.f3, n, q.f5, q.f6, q.f7, q.f8, q.f9⟩
def endP (p : PS) (q : T34) : PS × T34 := match toldL (nextP p) LIMIT with
 | some n => afterP (takeP p) (setLimit q n)
 | none => afterP p q
theorem num_w {w : ByteArray} (h : w.size ≤ 1000000) : ask_number w = some (numR (numL w.data.toList)) := number_eq (l := w.data.toList) (by rw [Array.length_toList]; exact h)
theorem end_l0 (a1 : T34) (t5 : Int × Bool) (x : T60) (ws : List ByteArray) (hl : ws.length ≤ 1000000) (hw : ∀ w ∈ ws, w.size ≤ 1000000) : ∀ (n i : Nat) (acc : List Int), i + n = ws.length → acc.length ≤ i →
  Ev (fun k => ask_reader_ending_l0 a1 t5 x ws k acc (i : Int)) (match numsL (ws.drop i) with | none => Sum.inl (⟨x.f0, x.f1, x.f2, true⟩, (⟨a1.f0, a1.f1, a1.f2, a1.f3, t5.1, a1.f5, a1.f6, a1.f7, a1.f8, a1.f9⟩ : T34)) | some ns => Sum.inr (acc ++ ns))
 | 0, i, acc, hi, ha => by
  obtain rfl : i = ws.length := by omega
  rw [List.drop_length]; refine Ev.step (fun k => by rw [ask_reader_ending_l0]) (Ev.neg (by omega) ((Ev.now _).is ?_)); simp [numsL]
 | n + 1, i, acc, hi, ha => by
  have hil : i < ws.length := by omega
  rw [drop_getD ws (⟨#[]⟩ : ByteArray) hil, numsL]; refine Ev.step (fun k => by rw [ask_reader_ending_l0]) (Ev.pos (by omega) (Ev.pos (by omega) ?_)); refine Ev.bind (Ev.now _) ?_; rw [Int.toNat_natCast, num_w (hw _ (getD_mem ws _ hil))]; refine Ev.bind (Ev.now _) ?_
  cases numL (ws.getD i (⟨#[]⟩ : ByteArray)).data.toList with
  | none => exact Ev.pos rfl (Ev.bind (Ev.now _) (Ev.now _))
  | some m =>
   refine Ev.neg (by simp [numR]) (Ev.pos (by simp only [List.length_singleton]; omega) ?_); rw [i64w (by omega), show ((i : Nat) : Int) + 1 = ((i + 1 : Nat) : Int) by omega]; have := end_l0 a1 t5 x ws hl hw n (i + 1) (acc ++ [m]) (by omega) (by simp only [List.length_append, List.length_singleton]; omega); refine Ev.is this ?_
   dsimp only
   cases numsL (ws.drop (i + 1)) with
   | none => rfl
   | some ns => simp
theorem end_l1 (a1 : T34) (x : T60) (ws : List ByteArray) (hl : ws.length ≤ 1000000) (hw : ∀ w ∈ ws, w.size ≤ 1000000) : ∀ (n i : Nat) (acc : List Int), i + n = ws.length → acc.length ≤ i →
  Ev (fun k => ask_reader_ending_l1 a1 x ws k acc (i : Int)) (match numsL (ws.drop i) with | none => Sum.inl (⟨x.f0, x.f1, x.f2, true⟩, a1) | some ns => Sum.inr (acc ++ ns))
 | 0, i, acc, hi, ha => by
  obtain rfl : i = ws.length := by omega
  rw [List.drop_length]; refine Ev.step (fun k => by rw [ask_reader_ending_l1]) (Ev.neg (by omega) ((Ev.now _).is ?_)); simp [numsL]
 | n + 1, i, acc, hi, ha => by
  have hil : i < ws.length := by omega
  rw [drop_getD ws (⟨#[]⟩ : ByteArray) hil, numsL]; refine Ev.step (fun k => by rw [ask_reader_ending_l1]) (Ev.pos (by omega) (Ev.pos (by omega) ?_)); refine Ev.bind (Ev.now _) ?_; rw [Int.toNat_natCast, num_w (hw _ (getD_mem ws _ hil))]; refine Ev.bind (Ev.now _) ?_
  cases numL (ws.getD i (⟨#[]⟩ : ByteArray)).data.toList with
  | none => exact Ev.pos rfl (Ev.bind (Ev.now _) (Ev.now _))
  | some m =>
   refine Ev.neg (by simp [numR]) (Ev.pos (by simp only [List.length_singleton]; omega) ?_); rw [i64w (by omega), show ((i : Nat) : Int) + 1 = ((i + 1 : Nat) : Int) by omega]; have := end_l1 a1 x ws hl hw n (i + 1) (acc ++ [m]) (by omega) (by simp only [List.length_append, List.length_singleton]; omega); refine Ev.is this ?_
   dsimp only
   cases numsL (ws.drop (i + 1)) with
   | none => rfl
   | some ns => simp
theorem after_tail0 {s : List UInt8} {p : PS} (hp : WF s p) (q : T34) (n : Int) :
  Ev (fun k => ((strings_CutPrefix (ba (nextP p)) (⟨#[97, 102, 116, 101, 114, 58]⟩ : ByteArray)).bind fun t72 => (if (!t72.2) = true then some (st s p, setLimit q n) else ((ask_reader_take (st s p)).bind fun t77 => ((strings_Split t72.1 (⟨#[46]⟩ : ByteArray)).bind fun t81 => ((ask_reader_ending_l0 q (n, true) t77 t81 k ([] : List Int) 0).bind fun os85 => match os85 with | Sum.inl r => some r | Sum.inr s85 => ((if ¬ (s85.length : Int) = 4 then some true else (if 0 ≤ (3 : Int) ∧ (3 : Int) < (s85.length : Int) then some ((s85.getD (3 : Int).toNat 0) == 0) else none)).bind fun s109 => (if s109 = true then ((ask_reader_fail t77).bind fun t114 => some (t114.2, setLimit q n)) else (if 0 ≤ (0 : Int) ∧ (0 : Int) < (s85.length : Int) then (if 0 ≤ (1 : Int) ∧ (1 : Int) < (s85.length : Int) then (if 0 ≤ (2 : Int) ∧ (2 : Int) < (s85.length : Int) then (if 0 ≤ (3 : Int) ∧ (3 : Int) < (s85.length : Int) then some (t77, (⟨q.f0, q.f1, q.f2, q.f3, n, (s85.getD (2 : Int).toNat 0), (s85.getD (3 : Int).toNat 0), (s85.getD (0 : Int).toNat 0), (s85.getD (1 : Int).toNat 0), q.f9⟩ : T34)) else none) else none) else none) else none)))))))))
   (st s (afterP p (setLimit q n)).1, (afterP p (setLimit q n)).2) := by
 have hle := nextP_le p; have hb := hp.le; have hb2 := hp.2; unfold strings_CutPrefix; refine Ev.bind (Ev.now _) ?_; have hq : Lib.hasPrefix (ba (nextP p)).data.toList (⟨#[97, 102, 116, 101, 114, 58]⟩ : ByteArray).data.toList = Lib.hasPrefix (nextP p) AFTER := rfl; rw [hq]; unfold afterP; by_cases h : Lib.hasPrefix (nextP p) AFTER = true
 case neg =>
  rw [if_neg h]; exact Ev.pos (by simpa using h) (Ev.now _)
 rw [if_pos h]; refine Ev.neg (by simp [h]) ?_; rw [take_eq hp]; refine Ev.bind (Ev.now _) ?_; have et : (⟨(Lib.trimPrefix (ba (nextP p)).data.toList (⟨#[97, 102, 116, 101, 114, 58]⟩ : ByteArray).data.toList).toArray⟩ : ByteArray) = ba ((nextP p).drop 6) := by
  unfold Lib.trimPrefix; rw [hq, if_pos h]; rfl
 rw [et]; have hdl : ((nextP p).drop 6).length ≤ 100000 := by rw [List.length_drop]; omega
 refine Ev.bind ((Ev.now _).congr fun k => split_eq 46 (l := (nextP p).drop 6) (by omega)) ?_; have hlen := split_len 46 ((nextP p).drop 6); have hL := end_l0 q (n, true) (st s (takeP p)) (splitW 46 ((nextP p).drop 6)) (by omega) (fun w hw => by have := split_size _ _ _ _ w hw; rw [ba_size] at this; omega) _ 0 [] (Nat.zero_add _) (Nat.le_refl _); rw [List.drop_zero] at hL; refine Ev.bind hL ?_
 cases numsL (splitW 46 ((nextP p).drop 6)) with
 | none => exact (Ev.now _).is rfl
 | some ns =>
  dsimp only [List.nil_append]
  by_cases h4 : ns.length = 4
  ·have htest : (if ¬ (ns.length : Int) = 4 then some true else (if 0 ≤ (3 : Int) ∧ (3 : Int) < (ns.length : Int) then some ((ns.getD (3 : Int).toNat 0) == 0) else none)) = some (decide (ns.getD 3 0 = 0)) := by
    rw [if_neg (by omega), if_pos (by omega), Bool.beq_eq_decide_eq]; rfl
   rw [htest]; refine Ev.bind (Ev.now _) ?_; by_cases h0 : ns.getD 3 0 = 0
   ·have hc : ns.length ≠ 4 ∨ ns.getD 3 0 = 0 := .inr h0; rw [if_pos hc]; exact Ev.pos (decide_eq_true h0) (Ev.bind (Ev.now _) (Ev.now _))
   ·have hc : ¬ (ns.length ≠ 4 ∨ ns.getD 3 0 = 0) := by rintro (h | h); exact h h4; exact h0 h
    rw [if_neg hc]; refine Ev.neg (by rw [decide_eq_false h0]; decide) ?_; exact Ev.pos (by omega) (Ev.pos (by omega) (Ev.pos (by omega) (Ev.pos (by omega) (Ev.now _))))
  ·have hc : ns.length ≠ 4 ∨ ns.getD 3 0 = 0 := .inl h4; have hi : ¬ (ns.length : Int) = 4 := by omega
   rw [if_pos hc, if_pos hi]; exact Ev.bind (Ev.now _) (Ev.pos rfl (Ev.bind (Ev.now _) (Ev.now _)))
theorem after_tail1 {s : List UInt8} {p : PS} (hp : WF s p) (q : T34) :
  Ev (fun k => ((strings_CutPrefix (ba (nextP p)) (⟨#[97, 102, 116, 101, 114, 58]⟩ : ByteArray)).bind fun t72 => (if (!t72.2) = true then some (st s p, q) else ((ask_reader_take (st s p)).bind fun t77 => ((strings_Split t72.1 (⟨#[46]⟩ : ByteArray)).bind fun t81 => ((ask_reader_ending_l1 q t77 t81 k ([] : List Int) 0).bind fun os85 => match os85 with | Sum.inl r => some r | Sum.inr s85 => ((if ¬ (s85.length : Int) = 4 then some true else (if 0 ≤ (3 : Int) ∧ (3 : Int) < (s85.length : Int) then some ((s85.getD (3 : Int).toNat 0) == 0) else none)).bind fun s109 => (if s109 = true then ((ask_reader_fail t77).bind fun t114 => some (t114.2, q)) else (if 0 ≤ (0 : Int) ∧ (0 : Int) < (s85.length : Int) then (if 0 ≤ (1 : Int) ∧ (1 : Int) < (s85.length : Int) then (if 0 ≤ (2 : Int) ∧ (2 : Int) < (s85.length : Int) then (if 0 ≤ (3 : Int) ∧ (3 : Int) < (s85.length : Int) then some (t77, (⟨q.f0, q.f1, q.f2, q.f3, q.f4, (s85.getD (2 : Int).toNat 0), (s85.getD (3 : Int).toNat 0), (s85.getD (0 : Int).toNat 0), (s85.getD (1 : Int).toNat 0), q.f9⟩ : T34)) else none) else none) else none) else none)))))))))
   (st s (afterP p q).1, (afterP p q).2) := by
 have hle := nextP_le p; have hb := hp.le; have hb2 := hp.2; unfold strings_CutPrefix; refine Ev.bind (Ev.now _) ?_; have hq : Lib.hasPrefix (ba (nextP p)).data.toList (⟨#[97, 102, 116, 101, 114, 58]⟩ : ByteArray).data.toList = Lib.hasPrefix (nextP p) AFTER := rfl; rw [hq]; unfold afterP; by_cases h : Lib.hasPrefix (nextP p) AFTER = true
 case neg =>
  rw [if_neg h]; exact Ev.pos (by simpa using h) (Ev.now _)
 rw [if_pos h]; refine Ev.neg (by simp [h]) ?_; rw [take_eq hp]; refine Ev.bind (Ev.now _) ?_; have et : (⟨(Lib.trimPrefix (ba (nextP p)).data.toList (⟨#[97, 102, 116, 101, 114, 58]⟩ : ByteArray).data.toList).toArray⟩ : ByteArray) = ba ((nextP p).drop 6) := by
  unfold Lib.trimPrefix; rw [hq, if_pos h]; rfl
 rw [et]; have hdl : ((nextP p).drop 6).length ≤ 100000 := by rw [List.length_drop]; omega
 refine Ev.bind ((Ev.now _).congr fun k => split_eq 46 (l := (nextP p).drop 6) (by omega)) ?_; have hlen := split_len 46 ((nextP p).drop 6); have hL := end_l1 q (st s (takeP p)) (splitW 46 ((nextP p).drop 6)) (by omega) (fun w hw => by have := split_size _ _ _ _ w hw; rw [ba_size] at this; omega) _ 0 [] (Nat.zero_add _) (Nat.le_refl _); rw [List.drop_zero] at hL; refine Ev.bind hL ?_
 cases numsL (splitW 46 ((nextP p).drop 6)) with
 | none => exact (Ev.now _).is rfl
 | some ns =>
  dsimp only [List.nil_append]
  by_cases h4 : ns.length = 4
  ·have htest : (if ¬ (ns.length : Int) = 4 then some true else (if 0 ≤ (3 : Int) ∧ (3 : Int) < (ns.length : Int) then some ((ns.getD (3 : Int).toNat 0) == 0) else none)) = some (decide (ns.getD 3 0 = 0)) := by
    rw [if_neg (by omega), if_pos (by omega), Bool.beq_eq_decide_eq]; rfl
   rw [htest]; refine Ev.bind (Ev.now _) ?_; by_cases h0 : ns.getD 3 0 = 0
   ·have hc : ns.length ≠ 4 ∨ ns.getD 3 0 = 0 := .inr h0; rw [if_pos hc]; exact Ev.pos (decide_eq_true h0) (Ev.bind (Ev.now _) (Ev.now _))
   ·have hc : ¬ (ns.length ≠ 4 ∨ ns.getD 3 0 = 0) := by rintro (h | h); exact h h4; exact h0 h
    rw [if_neg hc]; refine Ev.neg (by rw [decide_eq_false h0]; decide) ?_; exact Ev.pos (by omega) (Ev.pos (by omega) (Ev.pos (by omega) (Ev.pos (by omega) (Ev.now _))))
  ·have hc : ns.length ≠ 4 ∨ ns.getD 3 0 = 0 := .inl h4; have hi : ¬ (ns.length : Int) = 4 := by omega
   rw [if_pos hc, if_pos hi]; exact Ev.bind (Ev.now _) (Ev.pos rfl (Ev.bind (Ev.now _) (Ev.now _)))
theorem ending_eq {s : List UInt8} {p : PS} (hp : WF s p) (q : T34) : Ev (fun k => ask_reader_ending k (st s p) q) (st s (endP p q).1, (endP p q).2) := by
 have hle := nextP_le p; have hb := hp.le; have hb2 := hp.2; unfold ask_reader_ending; rw [next_eq hp]; refine Ev.bind (Ev.now _) ?_; have ht := told_eq (it := nextP p) (w := LIMIT) (by omega); refine Ev.bind ((Ev.now _).congr fun k => ht) ?_; unfold endP
 cases toldL (nextP p) LIMIT with
 | none =>
  refine Ev.neg (by simp [numR]) ?_; refine Ev.bind (Ev.now _) ?_; exact after_tail1 hp q
 | some n =>
  refine Ev.pos rfl ?_; rw [take_eq hp]; refine Ev.bind (Ev.now _) ?_; rw [next_eq (take_WF hp)]; refine Ev.bind (Ev.now _) ?_; exact after_tail0 (take_WF hp) q n
def recB (r : T32) : Bool := decide (0 ≤ r.f0 ∧ r.f0 < 8 ∧ 1 ≤ r.f1 ∧ r.f1 ≤ 1023 ∧ 0 ≤ r.f2 ∧ r.f2 ≤ 1099511627776 ∧ 0 ≤ r.f3 ∧ r.f3 ≤ 65535) && (decide (r.f4.size ≤ 120) && Lib.validD r.f4.data.toList)
theorem recMay_eq {r : T32} (h : r.f4.size ≤ 9223372036854775807) : record_May r = some (recB r) := by
 unfold record_May stamp_May stamp_wall recB; rw [May_eq h]; by_cases c : 0 ≤ r.f0 ∧ r.f0 < 8 ∧ 1 ≤ r.f1 ∧ r.f1 ≤ 1023 ∧ 0 ≤ r.f2 ∧ r.f2 ≤ 1099511627776 ∧ 0 ≤ r.f3 ∧ r.f3 ≤ 65535
 ·obtain ⟨a, b, e, f, g, i, j, l⟩ := c; simp [a, b, e, f, g, i, j, l]
 ·rw [decide_eq_false c]; simp only [Bool.false_and]; by_cases a : r.f0 ≥ 0
  ·by_cases b : r.f0 < 8
   ·by_cases e : r.f1 ≥ 1
    ·by_cases f : r.f1 ≤ 1023
     ·by_cases g : r.f2 ≥ 0
      ·by_cases i : r.f2 ≤ 1099511627776
       ·by_cases j : r.f3 ≥ 0
        ·have l : ¬ r.f3 ≤ 65535 := by omega
         simp [a, b, e, f, g, i, j, l]
        ·simp [a, b, e, f, g, i, j]
       ·simp [a, b, e, f, g, i]
      ·simp [a, b, e, f, g]
     ·simp [a, b, e, f]
    ·simp [a, b, e]
   ·simp [a, b]
  ·simp [a]
def aft (q : T34) : T32 := ⟨q.f5, q.f6, q.f7, q.f8, q.f9⟩
def askOf (q : T34) : T26 := ⟨q.f0, q.f1, q.f2, q.f3⟩
def z34' : T34 := ⟨0, 0, [], [], 0, 0, 0, 0, 0, ⟨#[]⟩⟩
def aftB (q : T34) : Bool := decide (aft q = ⟨0, 0, 0, 0, ⟨#[]⟩⟩) || (decide (q.f9 = ⟨#[]⟩) && recB (aft q))
def mayQB (d : Nat) (q : T34) : Bool := mayB d (askOf q) && (decide (1 ≤ q.f4 ∧ q.f4 ≤ 50) && aftB q)
theorem mayQuery_ev {d : Nat} (hd : d < 1000) {q : T34} (h : SmallN d (askOf q)) (hc : cntN d (askOf q) ≤ 1000) : Ev (fun k => ask_mayQuery k q) (mayQB d q) := by
 unfold ask_mayQuery mayQB; have h1 : (if (⟨q.f5, q.f6, q.f7, q.f8, q.f9⟩ : T32) = (⟨0, 0, 0, 0, (⟨#[]⟩ : ByteArray)⟩ : T32) then some true else (if (q.f9.toList == (⟨#[]⟩ : ByteArray).toList) = true then ((record_May (⟨q.f5, q.f6, q.f7, q.f8, q.f9⟩ : T32)).bind fun t6 => some t6) else some false)) = some (aftB q) := by
  unfold aftB aft; by_cases h0 : (⟨q.f5, q.f6, q.f7, q.f8, q.f9⟩ : T32) = (⟨0, 0, 0, 0, (⟨#[]⟩ : ByteArray)⟩ : T32)
  ·rw [if_pos h0, decide_eq_true h0]; rfl
  ·rw [if_neg h0, decide_eq_false h0, toList_beq]; by_cases h9 : q.f9 = (⟨#[]⟩ : ByteArray)
   ·rw [if_pos (decide_eq_true h9), decide_eq_true h9]; rw [recMay_eq (by show q.f9.size ≤ _; rw [h9]; decide)]; simp
   ·rw [if_neg (by simpa using h9), decide_eq_false h9]; rfl
 rw [h1]; refine Ev.bind (Ev.now _) ?_; refine Ev.bind ?_ (Ev.now _); refine Ev.bind (askMay_ev hd h hc) ?_; unfold askOf; by_cases hm : mayB d ⟨q.f0, q.f1, q.f2, q.f3⟩ = true
 ·refine Ev.pos hm ?_; rw [hm]; by_cases ha : q.f4 ≥ 1
  ·refine Ev.pos ha ?_; by_cases hb : q.f4 ≤ 50
   ·exact Ev.pos hb ((Ev.now _).is (by rw [decide_eq_true ⟨ha, hb⟩]; simp))
   ·exact Ev.neg hb ((Ev.now _).is (by rw [decide_eq_false (fun e => hb e.2)]; simp))
  ·exact Ev.neg ha ((Ev.now _).is (by rw [decide_eq_false (fun e => ha e.1)]; simp))
 ·refine Ev.neg hm ((Ev.now _).is ?_); simp only [Bool.not_eq_true] at hm; rw [hm]; rfl
def runP (s : List UInt8) : T26 × PS := anyP (oneP (s.length + 1)) (s.length + 1) ⟨s, false, false⟩
def qOf (x : T26) : T34 := ⟨x.f0, x.f1, x.f2, x.f3, 50, 0, 0, 0, 0, ⟨#[]⟩⟩
def rdP (s : List UInt8) : PS × T34 := endP (runP s).2 (qOf (runP s).1)
def okP (s : List UInt8) : Bool := decide (s.length ≤ 200) && (!(rdP s).1.bad && ((rdP s).1.over && mayQB 700 (rdP s).2))
def readP (s : List UInt8) : T34 × Int := if okP s = true then ((rdP s).2, 0) else (z34', 14)
theorem after_ask (p : PS) (q : T34) : askOf (afterP p q).2 = askOf q := by
 unfold afterP
 split
 ·split
  ·rfl
  ·split <;> rfl
 ·rfl
theorem end_ask (p : PS) (q : T34) : askOf (endP p q).2 = askOf q := by
 unfold endP
 split
 ·exact after_ask _ _
 ·exact after_ask _ _
theorem after_bad {p : PS} (q : T34) (h : p.bad = true) : (afterP p q).1.bad = true := by
 unfold afterP; have : nextP p = [] := by unfold nextP; rw [if_pos (.inr h)]
 rw [this, if_neg (by decide)]; exact h
theorem end_bad {p : PS} (q : T34) (h : p.bad = true) : (endP p q).1.bad = true := by
 unfold endP; have hn : nextP p = [] := by unfold nextP; rw [if_pos (.inr h)]
 rw [hn]; have : toldL [] LIMIT = none := by decide
 rw [this]; exact after_bad q h
theorem runP_small {s : List UInt8} (hs : s.length ≤ 200) (hb : (runP s).2.bad = false) : Sm 700 (runP s).1 200 := by
 have h : OK 200 (3 * (s.length + 1) + 2) (anyP (oneP (s.length + 1)) (s.length + 1)) :=
  sm_join (by omega) (sm_join (by omega) (one_small (by omega) (s.length + 1)) AND (by decide) 7 _) OR (by decide) 8 _
 obtain ⟨_, h2⟩ := h ⟨s, false, false⟩ hs hb; have h3 := h2.up (700 - (3 * (s.length + 1) + 2)); rw [show 3 * (s.length + 1) + 2 + (700 - (3 * (s.length + 1) + 2)) = 700 by omega] at h3; exact h3.le (by dsimp only; omega)
theorem Read_ev (s : List UInt8) (hl : s.length ≤ 1000000) : Ev (fun k => ask_Read k (ba s)) (readP s) := by
 unfold ask_Read readP okP; rw [ba_size]; by_cases hs : s.length ≤ 200
 case neg =>
  rw [decide_eq_false hs]; exact Ev.pos (by omega) (Ev.now _)
 refine Ev.neg (by omega) ?_; rw [decide_eq_true hs]; have hp : WF s ⟨s, false, false⟩ := ⟨List.suffix_refl _, by omega⟩; have e0 : (⟨ba s, 0, false, false⟩ : T60) = st s ⟨s, false, false⟩ := by simp [st]
 rw [e0]; refine Ev.bind (any_eq (one_suf (s.length + 1)) (m := s.length + 1) (s.length + 1) ⟨s, false, false⟩ (fun k => ask_reader_one k) (fun q hq hl => one_eq _ q hq hl) (Nat.le_refl _) hp (by simp)) ?_; have hwa : WF s (runP s).2 := hp.suf (any_suf (one_suf _) _ _); refine Ev.bind (ending_eq hwa (qOf (runP s).1)) ?_; show Ev (fun k => ((if (rdP s).1.bad = true then some true else (if (!(rdP s).1.over) = true then some true else ((ask_mayQuery k (rdP s).2).bind fun t19 => some (!t19)))).bind fun s15 => (if s15 = true then some (z34', 14) else some ((rdP s).2, 0)))) _; by_cases hb : (rdP s).1.bad = true
 ·refine Ev.bind (b := true) (Ev.pos hb (Ev.now _)) (Ev.pos rfl ((Ev.now _).is ?_)); rw [hb]; rfl
 simp only [Bool.not_eq_true] at hb; rw [hb]
 cases ho : (rdP s).1.over with
 | false => exact Ev.bind (b := true) (Ev.neg (by simp) (Ev.pos rfl (Ev.now _))) (Ev.pos rfl (Ev.now _))
 | true =>
  have hrb : (runP s).2.bad = false := by
   cases hq : (runP s).2.bad with
   | false => rfl
   | true => have := end_bad (qOf (runP s).1) hq; unfold rdP at hb; rw [this] at hb; cases hb
  have hsm := runP_small hs hrb; have hask : askOf (rdP s).2 = (runP s).1 := (end_ask _ _).trans (eta26 _); refine Ev.bind (b := !(mayQB 700 (rdP s).2)) (Ev.neg (by simp) (Ev.neg (by simp) (Ev.bind (mayQuery_ev (d := 700) (by omega) (by rw [hask]; exact hsm.1) (by rw [hask]; have := hsm.2; omega)) (Ev.now _)))) ?_
  cases mayQB 700 (rdP s).2 with
  | true => exact Ev.neg (by simp) ((Ev.now _).is rfl)
  | false => exact Ev.pos (by simp) ((Ev.now _).is rfl)
end Go.Proofs.YtmgkpphbehamcaaGreatDoor.Pure
