
import Derived.Test.YtbphlohiealbeaaGreatDoorF0
import Derived.Test.YtbphlohiealbeaaGreatDoorF2
import Derived.Test.YtbphlohiealbeaaGreatDoorPDeem2
namespace Go.Proofs.YtbphlohiealbeaaGreatDoor.Pure
open Go Go.Gg Go.Gp Gf
set_option linter.unusedVariables false
set_option linter.unusedSimpArgs false


def recB (r : T31) : Bool := decide (0 ≤ r.f0 ∧ r.f0 < 8 ∧ 1 ≤ r.f1 ∧ r.f1 ≤ 1023 ∧ 0 ≤ r.f2 ∧ r.f2 ≤ 1099511627776 ∧ 0 ≤ r.f3 ∧ r.f3 ≤ 65535) && (decide (r.f4.size ≤ 120) && Lib.validD r.f4.data.toList)
theorem recMay_eq {r : T31} (h : r.f4.size ≤ 9223372036854775807) : record_May r = some (recB r) := by
 unfold record_May stamp_May stamp_wall recB
 rw [May_eq h]
 by_cases c : 0 ≤ r.f0 ∧ r.f0 < 8 ∧ 1 ≤ r.f1 ∧ r.f1 ≤ 1023 ∧ 0 ≤ r.f2 ∧ r.f2 ≤ 1099511627776 ∧ 0 ≤ r.f3 ∧ r.f3 ≤ 65535
 ·obtain ⟨a, b, e, f, g, i, j, l⟩ := c
  simp [a, b, e, f, g, i, j, l]
 ·rw [decide_eq_false c]
  simp only [Bool.false_and]
  by_cases a : r.f0 ≥ 0
  ·by_cases b : r.f0 < 8
   ·by_cases e : r.f1 ≥ 1
    ·by_cases f : r.f1 ≤ 1023
     ·by_cases g : r.f2 ≥ 0
      ·by_cases i : r.f2 ≤ 1099511627776
       ·by_cases j : r.f3 ≥ 0
        ·have l : ¬ r.f3 ≤ 65535 := by omega
         simp [a, b, e, f, g, i, j, l]
        ·simp [a, b, e, f, g, i, j]
       ·simp [a, b, e, f, g, i]
      ·simp [a, b, e, f, g]
     ·simp [a, b, e, f]
    ·simp [a, b, e]
   ·simp [a, b]
  ·simp [a]
theorem OfD_len (s : ByteArray) : (OfD s).length ≤ 120 := by
 unfold OfD
 split
 ·rename_i h
  simp only [Bool.and_eq_true, decide_eq_true_eq] at h
  obtain ⟨rs, hr, rfl⟩ := valid_bs h.2
  rw [runesOf_bs rs hr, Wd_length]
  rw [bs_size] at h
  have := runs_len oth rs []
  have := enc_length rs
  simp [words] at *
  omega
 ·simp

def holdsD (d : Nat) (x : T25) (r : T31) : Bool := mayB d x && (recB r && holdsN r.f0 r.f2 (OfD r.f4) d x)
theorem mayB_good {d : Nat} {x : T25} (h : mayB d x = true) : goodN d x = true := by
 unfold mayB at h
 simp only [Bool.and_eq_true] at h
 exact h.2.2
theorem Holds_ev {d : Nat} (hd : d < 1000) {x : T25} {r : T31} (h : SmallN d x) (hc : cntN d x ≤ 1000) (hr : r.f4.size ≤ 9223372036854775807) : Ev (fun k => deem_Holds k x r) (holdsD d x r) := by
 unfold deem_Holds holdsD
 have hl := OfD_len r.f4
 refine Ev.bind ?_ (Ev.now _)
 refine Ev.bind (askMay_ev hd h hc) ?_
 cases hm : mayB d x
 ·exact Ev.neg Bool.false_ne_true ((Ev.now _).is (by simp))
 refine Ev.pos rfl ?_
 rw [recMay_eq hr]
 refine Ev.name fun v hv => ?_
 cases hb : recB r
 ·exact Ev.neg (by rw [hv, hb]; simp) ((Ev.now _).is (by simp))
 refine Ev.pos (by rw [hv, hb]) ?_
 refine Ev.bind (Of_ev hr) ?_
 refine Ev.bind (holds_ev ⟨r.f0, r.f1, r.f2, r.f3, r.f4, OfD r.f4⟩ (by show (OfD r.f4).length < _; omega) d x h (mayB_good hm)) ?_
 exact (Ev.now _).is (by simp)
theorem small_leaf {x : T25} (h1 : x.f2.length ≤ 300) (h2 : ∀ w ∈ x.f2, w.size ≤ 500) (h3 : x.f3 = []) : SmallN 1 x ∧ cntN 1 x ≤ 1000 := by
 refine ⟨⟨h1, h2, by rw [h3]; simp, by rw [h3]; simp⟩, ?_⟩
 simp [cntN, h3]
end Go.Proofs.YtbphlohiealbeaaGreatDoor.Pure
