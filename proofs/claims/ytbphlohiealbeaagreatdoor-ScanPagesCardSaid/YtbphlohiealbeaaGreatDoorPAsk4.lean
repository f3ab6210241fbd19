
import Derived.Test.YtbphlohiealbeaaGreatDoorF1
import Derived.Test.YtbphlohiealbeaaGreatDoorPAsk2
import Derived.Test.YtbphlohiealbeaaGreatDoorF2
namespace Go.Proofs.YtbphlohiealbeaaGreatDoor.Pure
open Go Go.Gg Go.Gp Gf
set_option linter.unusedVariables false
set_option linter.unusedSimpArgs false
theorem good_no {d : Nat} {x : T25} (h : shapeB x = false) : goodN (d + 1) x = false := by simp only [goodN, h, Bool.false_and]
theorem good_words {d : Nat} {x : T25} (h : shapeB x = true) (h3 : x.f3.length = 0) : goodN (d + 1) x = x.f2.all wordOK := by
 simp only [goodN, h, Bool.true_and, List.eq_nil_of_length_eq_zero h3, List.all_nil, Bool.and_true]
theorem good_subs {d : Nat} {x : T25} (h : shapeB x = true) (h2 : x.f2.length = 0) : goodN (d + 1) x = x.f3.all (goodN d) := by
 simp only [goodN, h, Bool.true_and, List.eq_nil_of_length_eq_zero h2, List.all_nil]
theorem good_nil {d : Nat} {x : T25} (h : shapeB x = true) (h2 : x.f2.length = 0) (h3 : x.f3.length = 0) : goodN (d + 1) x = true := by
 rw [good_words h h3, List.eq_nil_of_length_eq_zero h2]; rfl
def mayB (d : Nat) (x : T25) : Bool := decide (deepN d x ≤ 6) && (decide (termsN d x ≤ 16) && goodN d x)
theorem askMay_ev {d : Nat} (hd : d < 1000) {x : T25} (h : SmallN d x) (hc : cntN d x ≤ 1000) : Ev (fun k => ask_May k x) (mayB d x) := by
 unfold ask_May mayB; refine Ev.bind ?_ (Ev.now _); refine Ev.bind (Deep_ev d x hd h) ?_; refine Ev.ite (fun a => ?_) (fun a => (Ev.now _).is (by rw [decide_eq_false a]; rfl)); refine Ev.bind (Terms_ev d x h hc) ?_; refine Ev.ite (fun b => ?_) (fun b => (Ev.now _).is (by rw [decide_eq_false b]; simp)); exact Ev.bind (good_ev d x h) ((Ev.now _).is (by rw [decide_eq_true a, decide_eq_true b]; simp))
end Go.Proofs.YtbphlohiealbeaaGreatDoor.Pure
namespace Go.Proofs.YtbphlohiealbeaaGreatDoor.Pure
open Go Go.Gg Go.Gp Gf
set_option linter.unusedVariables false
set_option linter.unusedSimpArgs false
def M (ws : List T85) (ps : List ByteArray) (i j : Nat) : Bool := decide (i + j < ws.length) && decide (ws.getD (i + j) z85 = ⟨ps.getD j ⟨#[]⟩, IntKind.i64.wrap ((ws.getD i z85).f1 + j)⟩)
def mFrom (ws : List T85) (ps : List ByteArray) (i : Nat) : Nat → Nat → Bool
 | 0, _ => true
 | n + 1, j => M ws ps i j && mFrom ws ps i n (j + 1)
def anyFrom (ws : List T85) (ps : List ByteArray) : Nat → Nat → Bool
 | 0, _ => false
 | n + 1, i => mFrom ws ps i ps.length 0 || anyFrom ws ps n (i + 1)
def phraseD (ws : List T85) (ps : List ByteArray) : Bool := decide (0 < ps.length) && anyFrom ws ps ws.length 0
section
variable (ws : List T85) (ps : List ByteArray) (hw : ws.length < 4294967296) (hp : ps.length < 4294967296)
include hw hp
theorem Phrase_l1 (i : Nat) (hi : i < ws.length) : ∀ (n j : Nat), j + n = ps.length → ∃ z : Int, Ev (fun k => deem_Phrase_l1 ws ps (i : Int) k (j : Int)) z ∧ (j : Int) ≤ z ∧ z ≤ ps.length ∧ decide (z = ps.length) = mFrom ws ps i n j
 | 0, j, hn => by
  refine ⟨j, ?_, by omega, by omega, by simp only [mFrom]; rw [decide_eq_true (by omega)]⟩; refine Ev.step (fun k => by rw [deem_Phrase_l1]) ?_; refine Ev.bind (b := false) (Ev.neg (by omega) (Ev.now _)) ?_; exact Ev.neg Bool.false_ne_true (Ev.now _)
 | n + 1, j, hn => by
  have test : Ev (fun k => (if (j : Int) < (ps.length : Int) then (if (IntKind.i64.wrap ((i : Int) + (j : Int))) < (ws.length : Int) then (if 0 ≤ (IntKind.i64.wrap ((i : Int) + (j : Int))) ∧ (IntKind.i64.wrap ((i : Int) + (j : Int))) < (ws.length : Int) then (if 0 ≤ (j : Int) ∧ (j : Int) < (ps.length : Int) then (if 0 ≤ (i : Int) ∧ (i : Int) < (ws.length : Int) then some (decide ((ws.getD (IntKind.i64.wrap ((i : Int) + (j : Int))).toNat z85) = (⟨(ps.getD (j : Int).toNat (⟨#[]⟩ : ByteArray)), IntKind.i64.wrap (((ws.getD (i : Int).toNat z85).f1) + (j : Int))⟩ : T85))) else none) else none) else none) else some false) else some false)) (M ws ps i j) := by
   refine Ev.pos (by omega) ?_; rw [i64w (by omega), show ((i : Int) + (j : Int)).toNat = i + j by omega, show ((i : Nat) : Int).toNat = i by omega, show ((j : Nat) : Int).toNat = j by omega]; unfold M; by_cases h : i + j < ws.length
   ·refine Ev.pos (by omega) (Ev.pos (by omega) (Ev.pos (by omega) (Ev.pos (by omega) ((Ev.now _).is ?_)))); rw [decide_eq_true h, Bool.true_and]
   ·refine Ev.neg (by omega) ((Ev.now _).is ?_); rw [decide_eq_false h, Bool.false_and]
  cases hM : M ws ps i j
  ·rw [hM] at test; refine ⟨j, ?_, by omega, by omega, by simp only [mFrom, hM, Bool.false_and]; rw [decide_eq_false (by omega)]⟩; refine Ev.step (fun k => by rw [deem_Phrase_l1]) ?_; refine Ev.bind test ?_; exact Ev.neg Bool.false_ne_true (Ev.now _)
  ·rw [hM] at test; obtain ⟨z, hz, h1, h2, h3⟩ := Phrase_l1 i hi n (j + 1) (by omega); refine ⟨z, ?_, by omega, h2, by simp only [mFrom, hM, Bool.true_and]; exact h3⟩; refine Ev.step (fun k => by rw [deem_Phrase_l1]) ?_; refine Ev.bind test ?_; refine Ev.pos rfl ?_; rw [i64w (by omega), show ((j : Nat) : Int) + 1 = ((j + 1 : Nat) : Int) by omega]; exact hz
theorem Phrase_l0 : ∀ (n i : Nat), i + n = ws.length → Ev (fun k => deem_Phrase_l0 ws ps k (i : Int)) (if (decide (0 < ps.length) && anyFrom ws ps n i) then Sum.inl true else Sum.inr ())
 | 0, i, hn => by
  refine Ev.step (fun k => by rw [deem_Phrase_l0]) ?_; refine Ev.neg (by omega) ((Ev.now _).is (by simp [anyFrom]))
 | n + 1, i, hn => by
  obtain ⟨z, hz, h1, h2, h3⟩ := Phrase_l1 ws ps hw hp i (by omega) ps.length 0 (by omega); refine Ev.step (fun k => by rw [deem_Phrase_l0]) ?_; refine Ev.pos (by omega) ?_; refine Ev.bind hz ?_; have hv : Ev (fun k => if z > 0 then some (z == (ps.length : Int)) else some false) (decide (0 < ps.length) && mFrom ws ps i ps.length 0) := by
   rw [← h3]; refine Ev.ite (fun h => (Ev.now _).is ?_) (fun h => (Ev.now _).is ?_)
   ·by_cases e : z = ps.length
    ·rw [decide_eq_true e, decide_eq_true (by omega : 0 < ps.length), e]; simp
    ·rw [decide_eq_false e, Bool.and_false, beq_eq_false_iff_ne]; exact e
   ·by_cases e : 0 < ps.length
    ·rw [decide_eq_false (by omega : ¬ z = ps.length), Bool.and_false]
    ·rw [decide_eq_false e, Bool.false_and]
  refine Ev.bind hv ?_
  cases hc : (decide (0 < ps.length) && mFrom ws ps i ps.length 0)
  ·refine Ev.neg Bool.false_ne_true ?_; rw [i64w (by omega), show ((i : Nat) : Int) + 1 = ((i + 1 : Nat) : Int) by omega]; have := Phrase_l0 n (i + 1) (by omega); have e : (decide (0 < ps.length) && anyFrom ws ps (n + 1) i) = (decide (0 < ps.length) && anyFrom ws ps n (i + 1)) := by
    simp only [anyFrom]
    cases hd : decide (0 < ps.length)
    ·rfl
    ·rw [hd, Bool.true_and] at hc; rw [hc, Bool.false_or]
   rw [e]; exact this
  ·refine Ev.pos rfl ((Ev.now _).is ?_); rw [Bool.and_eq_true] at hc; simp [anyFrom, hc.1, hc.2]
theorem Phrase_ev : Ev (fun k => deem_Phrase k ws ps) (phraseD ws ps) := by
 unfold deem_Phrase phraseD; refine Ev.bind (Phrase_l0 ws ps hw hp ws.length 0 (by omega)) ?_
 cases (decide (0 < ps.length) && anyFrom ws ps ws.length 0)
 ·exact Ev.now _
 ·exact Ev.now _
end
end Go.Proofs.YtbphlohiealbeaaGreatDoor.Pure
