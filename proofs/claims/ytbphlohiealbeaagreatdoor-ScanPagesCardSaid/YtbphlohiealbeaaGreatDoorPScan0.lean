/- Lists sorted, merged, and cut off: no program in sight. -/
import Derived.Test.YtbphlohiealbeaaGreatDoorGgS
import Derived.Test.YtbphlohiealbeaaGreatDoorF0
import Derived.Test.YtbphlohiealbeaaGreatDoorF1
import Derived.Test.YtbphlohiealbeaaGreatDoorF2
import Derived.Test.YtbphlohiealbeaaGreatDoorF3
import Derived.Test.YtbphlohiealbeaaGreatDoorPDeem2
import Derived.Test.YtbphlohiealbeaaGreatDoorPSort
namespace Go.Gp
set_option linter.unusedVariables false
set_option linter.unusedSimpArgs false
variable {α : Type} {lt : α → α → Bool}
end Go.Gp
namespace Go.Proofs.YtbphlohiealbeaaGreatDoor.Pure
open Go Go.Gg Go.Gp Gf
set_option linter.unusedVariables false
set_option linter.unusedSimpArgs false
theorem nd_le : ∀ (k u : Nat), u < 10 ^ (k + 1) → Lib.nDigits u ≤ k + 1
 | 0, u, h => by rw [Lib.nDigits_small (by simpa using h)]; omega
 | k + 1, u, h => by
  by_cases c : u < 10
  ·rw [Lib.nDigits_small c]; omega
  ·rw [Lib.nDigits_big c]; have : u / 10 < 10 ^ (k + 1) := by rw [Nat.pow_succ] at h; omega
   have := nd_le k (u / 10) this; omega
theorem itoa_ev {n : Int} (h0 : 0 ≤ n) (h1 : n < 10000000000000) : ∃ s : ByteArray, strconv_Itoa n = some s ∧ s.size ≤ 13 ∧ s = ⟨(Lib.itoa n).toArray⟩ := by
 refine ⟨_, by unfold strconv_Itoa; rw [if_pos (by omega)], ?_, rfl⟩; have e : Lib.itoa n = Lib.decDigits n.toNat := by unfold Lib.itoa; rw [if_neg (by omega)]
 show ((Lib.itoa n).toArray).size ≤ 13; rw [e, List.size_toArray, Lib.decDigits_length]; exact nd_le 12 n.toNat (by show n.toNat < 10000000000000; omega)
def askOf (q : T33) : T25 := ⟨q.f0, q.f1, q.f2, q.f3⟩
def afterOf (q : T33) : T31 := ⟨q.f5, q.f6, q.f7, q.f8, q.f9⟩
def fromQ (q : T33) : T33 := ⟨4, 0, [], [], q.f4, q.f5, q.f6, q.f7, q.f8, q.f9⟩
def afterB (q : T33) : Bool := decide (afterOf q = ⟨0, 0, 0, 0, ⟨#[]⟩⟩) || ((q.f9.toList == (⟨#[]⟩ : ByteArray).toList) && recB (afterOf q))
theorem from_may : Ev (fun k => ask_May k (⟨4, 0, [], []⟩ : T25)) true := by
 have s := small_leaf (x := (⟨4, 0, [], []⟩ : T25)) (by decide) (by decide) rfl; exact (askMay_ev (d := 1) (by decide) s.1 s.2).is (by decide +kernel)
theorem query_ev {q : T33} (h9 : q.f9.size ≤ 9223372036854775807) : Ev (fun k => ask_mayQuery k (fromQ q)) (decide (1 ≤ q.f4 ∧ q.f4 ≤ 50) && afterB q) := by
 unfold ask_mayQuery; refine Ev.bind (b := afterB q) ?_ ?_
 ·unfold afterB; by_cases c : afterOf q = ⟨0, 0, 0, 0, ⟨#[]⟩⟩
  ·rw [decide_eq_true c]; exact Ev.pos c ((Ev.now _).is (by simp))
  ·rw [decide_eq_false c]; refine Ev.neg c ?_; by_cases c2 : (q.f9.toList == (⟨#[]⟩ : ByteArray).toList) = true
   ·refine Ev.pos c2 ?_; show Ev (fun k => (record_May (afterOf q)).bind fun t6 => some t6) _; rw [recMay_eq (r := afterOf q) h9]; refine Ev.name fun t ht => (Ev.now _).is ?_
    rw [ht, c2]; simp
   ·refine Ev.neg c2 ((Ev.now _).is ?_); have : (q.f9.toList == (⟨#[]⟩ : ByteArray).toList) = false := by simpa using c2
    rw [this]; simp
 ·refine Ev.bind ?_ (Ev.now _); refine Ev.bind from_may (Ev.pos rfl ?_); by_cases c1 : 1 ≤ q.f4
  ·by_cases c2 : q.f4 ≤ 50
   ·rw [decide_eq_true ⟨c1, c2⟩]; exact Ev.pos c1 (Ev.pos c2 ((Ev.now _).is (by simp)))
   ·rw [decide_eq_false (by omega)]; exact Ev.pos c1 (Ev.neg c2 ((Ev.now _).is (by simp)))
  ·rw [decide_eq_false (by omega)]; exact Ev.neg c1 ((Ev.now _).is (by simp))
theorem size_app (a b : ByteArray) : (a ++ b).size = a.size + b.size := ByteArray.size_append
theorem write_from : ∃ s : ByteArray, Ev (fun k => ask_write k (⟨4, 0, [], []⟩ : T25)) s ∧ s.size ≤ 18 := by
 obtain ⟨s, hs, hl, _⟩ := itoa_ev (n := 0) (by omega) (by omega); refine ⟨(⟨#[102, 114, 111, 109, 58]⟩ : ByteArray) ++ s, ?_, by rw [size_app]; show 5 + s.size ≤ 18; omega⟩; refine Ev.step (fun k => by rw [ask_write]) ?_; refine Ev.bind (b := []) (Ev.step (fun k => by rw [ask_write_l0]) (Ev.neg (by simp) (Ev.now _))) ?_; refine Ev.neg (by decide) (Ev.neg (by decide) (Ev.neg (by decide) (Ev.pos rfl ?_))); rw [hs]; refine Ev.name fun t ht => ?_
 subst ht; exact Ev.pos (by show 5 + t.size ≤ _; omega) (Ev.now _)
theorem Write_ev {q : T33} (h9 : q.f9.size ≤ 9223372036854775807) : ∃ s, Ev (fun k => ask_Write k (fromQ q)) (s, if (decide (1 ≤ q.f4 ∧ q.f4 ≤ 50) && afterB q) = true then 0 else 2) := by
 unfold ask_Write
 cases hm : (decide (1 ≤ q.f4 ∧ q.f4 ≤ 50) && afterB q)
 ·exact ⟨⟨#[]⟩, Ev.bind ((query_ev h9).is hm) (Ev.pos rfl (Ev.now _))⟩
 ·have hmm := hm; simp only [Bool.and_eq_true, decide_eq_true_eq] at hmm; obtain ⟨⟨l1, l2⟩, ha⟩ := hmm; obtain ⟨w, hw, hwl⟩ := write_from; obtain ⟨s, hs, hl, _⟩ := itoa_ev (n := q.f4) (by omega) (by omega); have e7 : (⟨#[32, 108, 105, 109, 105, 116, 58]⟩ : ByteArray).size = 7 := rfl; by_cases c : q.f6 > 0
  ·have hr : recB (afterOf q) = true := by
    unfold afterB at ha; simp only [Bool.or_eq_true, decide_eq_true_eq, Bool.and_eq_true] at ha; rcases ha with ha | ha
    ·have : q.f6 = 0 := congrArg T31.f1 ha; omega
    ·exact ha.2
   have hb : (0 ≤ q.f5 ∧ q.f5 < 8) ∧ q.f6 ≤ 1023 ∧ (0 ≤ q.f7 ∧ q.f7 ≤ 1099511627776) ∧ 0 ≤ q.f8 ∧ q.f8 ≤ 65535 := by
    unfold recB at hr; simp only [Bool.and_eq_true, decide_eq_true_eq] at hr; have e0 : (afterOf q).f0 = q.f5 := rfl; have e1 : (afterOf q).f1 = q.f6 := rfl; have e2 : (afterOf q).f2 = q.f7 := rfl; have e3 : (afterOf q).f3 = q.f8 := rfl; rw [e0, e1, e2, e3] at hr; omega
   obtain ⟨x1, i1, j1, _⟩ := itoa_ev (n := q.f7) (by omega) (by omega); obtain ⟨x2, i2, j2, _⟩ := itoa_ev (n := q.f8) (by omega) (by omega); obtain ⟨x3, i3, j3, _⟩ := itoa_ev (n := q.f5) (by omega) (by omega); obtain ⟨x4, i4, j4, _⟩ := itoa_ev (n := q.f6) (by omega) (by omega); obtain ⟨J, hJ⟩ : ∃ J, J = Lib.join ([x1, x2, x3, x4].map (·.data.toList)) (⟨#[46]⟩ : ByteArray).data.toList := ⟨_, rfl⟩; have hJl : J.length ≤ 55 := by
    rw [hJ]; have d : ∀ x : ByteArray, x.data.toList.length = x.size := fun x => Array.length_toList (xs := x.data)
    simp only [List.map_cons, List.map_nil, Lib.join, List.intercalate, List.intersperse, List.flatten_cons, List.flatten_nil, List.length_append, d, List.length_nil]; simp only [List.length_cons, List.length_nil]; omega
   have join_ : strings_Join [x1, x2, x3, x4] (⟨#[46]⟩ : ByteArray) = some ⟨J.toArray⟩ := by
    unfold strings_Join; rw [← hJ, if_pos ⟨by simp, by omega⟩]
   have hJs : (⟨J.toArray⟩ : ByteArray).size ≤ 55 := by show J.toArray.size ≤ 55; rw [List.size_toArray]; exact hJl
   have e8 : (⟨#[32, 97, 102, 116, 101, 114, 58]⟩ : ByteArray).size = 7 := rfl; refine ⟨w ++ (⟨#[32, 108, 105, 109, 105, 116, 58]⟩ : ByteArray) ++ s ++ ((⟨#[32, 97, 102, 116, 101, 114, 58]⟩ : ByteArray) ++ ⟨J.toArray⟩), ?_⟩; refine Ev.bind ((query_ev h9).is hm) (Ev.neg (by simp) ?_); refine Ev.bind hw (Ev.pos (by rw [e7]; omega) ?_); show Ev (fun k => (strconv_Itoa q.f4).bind _) _; rw [hs]; refine Ev.name fun t ht => ?_
   subst ht; refine Ev.pos (by rw [size_app, e7]; omega) ?_; refine Ev.name fun v hv => ?_
   subst hv; refine Ev.pos c ?_; refine Ev.name fun v hv => ?_
   subst hv; refine Ev.name fun v hv => ?_
   subst hv; have step : ∀ (i : Nat) (y : List ByteArray) (x : ByteArray) {r : List ByteArray}, i < 4 → strconv_Itoa (([q.f7, q.f8, q.f5, q.f6] : List Int).getD i 0) = some x → y.length ≤ 10 → Ev (fun k => ask_Write_l0 [q.f7, q.f8, q.f5, q.f6] 4 k (y ++ [x]) ((i + 1 : Nat) : Int)) r → Ev (fun k => ask_Write_l0 [q.f7, q.f8, q.f5, q.f6] 4 k y (i : Int)) r := fun i y x r hi hx hy H => by
    refine Ev.step (fun k => by rw [ask_Write_l0]) ?_; refine Ev.pos (by omega) (Ev.pos (by simp; omega) ?_); rw [Int.toNat_natCast, hx]; refine Ev.name fun t ht => ?_
    subst ht; refine Ev.pos (by simp; omega) ?_; rw [i64w (by omega), show ((i : Int) + 1) = ((i + 1 : Nat) : Int) by omega]; exact H
   refine Ev.bind (b := [x1, x2, x3, x4]) ?_ ?_
   ·have s4 : Ev (fun k => ask_Write_l0 [q.f7, q.f8, q.f5, q.f6] 4 k ([x1, x2, x3] ++ [x4]) ((3 + 1 : Nat) : Int)) [x1, x2, x3, x4] := by
     refine Ev.step (fun k => by rw [ask_Write_l0]) ?_; exact Ev.neg (by decide) (Ev.now _)
    have s3 := step 3 [x1, x2, x3] x4 (by decide) i4 (by simp) s4; have s2 := step 2 [x1, x2] x3 (by decide) i3 (by simp) s3; have s1 := step 1 [x1] x2 (by decide) i2 (by simp) s2; exact step 0 [] x1 (by decide) i1 (by simp) s1
   rw [join_]; refine Ev.name fun v hv => ?_
   subst hv; refine Ev.pos (by rw [e8]; omega) (Ev.pos (by simp only [size_app, e7, e8]; omega) ?_); refine Ev.name fun v hv => ?_
   subst hv; exact Ev.neg (by simp only [size_app, e7, e8]; omega) ((Ev.now _).is (by simp))
  ·refine ⟨w ++ (⟨#[32, 108, 105, 109, 105, 116, 58]⟩ : ByteArray) ++ s, ?_⟩; refine Ev.bind ((query_ev h9).is hm) (Ev.neg (by simp) ?_); refine Ev.bind hw (Ev.pos (by rw [e7]; omega) ?_); show Ev (fun k => (strconv_Itoa q.f4).bind _) _; rw [hs]; refine Ev.name fun t ht => ?_
   subst ht; refine Ev.pos (by rw [size_app, e7]; omega) ?_; refine Ev.name fun v hv => ?_
   subst hv; refine Ev.neg c (Ev.neg (by rw [size_app, size_app, e7]; omega) ((Ev.now _).is (by simp)))
def mayQ (d : Nat) (q : T33) : Bool := (decide (1 ≤ q.f4 ∧ q.f4 ≤ 50) && afterB q) && mayB d (askOf q)
theorem may_ev {d : Nat} (hd : d < 1000) {q : T33} (h9 : q.f9.size ≤ 9223372036854775807) (hs : SmallN d (askOf q)) (hc : cntN d (askOf q) ≤ 1000) : Ev (fun k => scan_may k q) (mayQ d q) := by
 unfold scan_may mayQ; obtain ⟨s, hW⟩ := Write_ev (q := q) h9; refine Ev.bind hW ?_
 cases hm : (decide (1 ≤ q.f4 ∧ q.f4 ≤ 50) && afterB q)
 ·exact Ev.bind (b := false) (Ev.neg (by simp) (Ev.now _)) (Ev.now _)
 ·refine Ev.bind (b := mayB d (askOf q)) (Ev.pos (by simp) ?_) ((Ev.now _).is (by simp)); exact Ev.bind (askMay_ev hd hs hc) (Ev.now _)
def earlyB (r a : T31) : Bool := decide (a.f1 > 0) && (ltr r a || (decide ((⟨r.f0, r.f1⟩ : T27) = ⟨a.f0, a.f1⟩) && decide ((⟨r.f2, r.f3⟩ : T29) = ⟨a.f2, a.f3⟩)))
theorem early_eq (r a : T31) : scan_early r a = some (earlyB r a) := by
 unfold scan_early earlyB; by_cases c : a.f1 > 0
 ·rw [if_pos c, decide_eq_true c, Less_some]; simp only [Option.bind_some, Bool.true_and]
  cases h : ltr r a
  ·simp only [Bool.false_eq_true, if_false, Bool.false_or]; by_cases e : (⟨r.f0, r.f1⟩ : T27) = ⟨a.f0, a.f1⟩
   ·rw [if_pos e, decide_eq_true e]; simp
   ·rw [if_neg e, decide_eq_false e]; simp
  ·simp
 ·rw [if_neg c, decide_eq_false c]; simp
def hitB (d : Nat) (q : T33) (r : T31) : Bool := !earlyB r (afterOf q) && holdsD d (askOf q) r
theorem hits_ev {d : Nat} (hd : d < 1000) {q : T33} (hs : SmallN d (askOf q)) (hc : cntN d (askOf q) ≤ 1000) (l : List T31) (hl : l.length ≤ 1000000) (hr : ∀ r ∈ l, r.f4.size ≤ 9223372036854775807) :
  Ev (fun k => scan_Find_l0 q l k [] 0) (l.filter (hitB d q)) := by
 have := Ev.count (F := fun k (a : List T31) i => scan_Find_l0 q l k a i) (r := l.filter (hitB d q)) (fun i => (l.take i).filter (hitB d q)) l.length (fun i hi r H => by
  obtain ⟨x, hx⟩ : ∃ x, x = l.getD i z31 := ⟨_, rfl⟩; have hxm : x ∈ l := by rw [hx, getD_eq l z31 hi]; exact List.getElem_mem _
  have htake : l.take (i + 1) = l.take i ++ [x] := by rw [take_getD l z31 hi, ← hx]
  have hlen : ((l.take i).filter (hitB d q)).length ≤ i := Nat.le_trans (List.length_filter_le _ _) (by rw [List.length_take]; omega); refine Ev.step (fun k => by rw [scan_Find_l0]) ?_; rw [Int.toNat_natCast, ← hx]; refine Ev.pos (by omega) (Ev.pos (by omega) ?_); show Ev (fun k => ((scan_early x (afterOf q)).bind fun t18 => (if (!t18) = true then ((deem_Holds k (askOf q) x).bind fun t23 => some t23) else some false)).bind fun s16 => (if s16 = true then (if ((l.take i).filter (hitB d q)).length + ([x] : List T31).length ≤ 1073741824 then scan_Find_l0 q l k ((l.take i).filter (hitB d q) ++ [x]) (IntKind.i64.wrap ((i : Int) + 1)) else none) else scan_Find_l0 q l k ((l.take i).filter (hitB d q)) (IntKind.i64.wrap ((i : Int) + 1)))) r; rw [early_eq]; rw [step64 i (by omega)]; rw [htake, List.filter_append] at H; refine Ev.bind (b := hitB d q x) ?_ ?_
  ·refine Ev.name fun t ht => ?_
   rw [ht]; unfold hitB
   cases he : earlyB x (afterOf q)
   ·exact Ev.pos rfl (Ev.bind (Holds_ev hd hs hc (hr x hxm)) ((Ev.now _).is (by simp)))
   ·exact Ev.neg (by simp) ((Ev.now _).is (by simp))
  ·cases hh : hitB d q x
   ·refine Ev.neg Bool.false_ne_true ?_; simpa [hh] using H
   ·refine Ev.pos rfl (Ev.pos (by simp; omega) ?_); simpa [hh] using H) (by
  refine Ev.step (fun k => by rw [scan_Find_l0]) ?_; exact Ev.neg (by omega) ((Ev.now _).is (by rw [List.take_length])))
 simpa using this
theorem Find_ev {d : Nat} (hd : d < 1000) {q : T33} (h9 : q.f9.size ≤ 9223372036854775807) (hs : SmallN d (askOf q)) (hc : cntN d (askOf q) ≤ 1000) (l : List T31) (hl : l.length ≤ 1000000) (hr : ∀ r ∈ l, r.f4.size ≤ 9223372036854775807) :
  ∃ t, (mayQ d q = true → 1 ≤ q.f4 ∧ q.f4 ≤ 50 ∧ ∃ u, Srt ltr u ∧ SE ltr (l.filter (hitB d q)) u ∧ t = u.take q.f4.toNat) ∧ (mayQ d q = false → t = []) ∧ Ev (fun k => scan_Find k q l) t := by
 cases hm : mayQ d q
 ·refine ⟨[], by simp, fun _ => rfl, ?_⟩; unfold scan_Find; exact Ev.bind ((may_ev hd h9 hs hc).is hm) (Ev.pos rfl (Ev.now _))
 ·have hml := hm; unfold mayQ at hml; simp only [Bool.and_eq_true, decide_eq_true_eq] at hml; obtain ⟨⟨⟨l1, l2⟩, _⟩, _⟩ := hml; have hfl : (l.filter (hitB d q)).length ≤ 1000000 := Nat.le_trans (List.length_filter_le _ _) hl; obtain ⟨u, hu, hse, hE⟩ := Sort_ev (l.filter (hitB d q)) (by omega); refine ⟨u.take q.f4.toNat, fun _ => ⟨l1, l2, u, hu, hse, rfl⟩, by simp, ?_⟩; unfold scan_Find; refine Ev.bind ((may_ev hd h9 hs hc).is hm) (Ev.neg (by simp) ?_); refine Ev.bind (hits_ev hd hs hc l hl hr) ?_; refine Ev.bind hE ?_; by_cases c : q.f4 < (u.length : Int)
  ·rw [if_pos c]; exact Ev.pos (by omega) (Ev.now _)
  ·rw [if_neg c]; exact Ev.pos (by omega) ((Ev.now _).is (by rw [List.take_of_length_le (by omega), List.take_of_length_le (by omega)]))
end Go.Proofs.YtbphlohiealbeaaGreatDoor.Pure
