/- Vectors in plain words; numbers laid two bytes each. -/
import Derived.Test.YtfocilpnbiciaaaDoorF0
import Derived.Test.YtfocilpnbiciaaaDoorF1
import Derived.Test.YtfocilpnbiciaaaDoorF4
import Derived.Test.YtfocilpnbiciaaaDoorF8
import Derived.Test.YtfocilpnbiciaaaDoorPRec
import Derived.Test.YtfocilpnbiciaaaDoorPFrm2
namespace Go.Proofs.YtfocilpnbiciaaaDoor.Pure
open Go Go.Gg Go.Gp Gf
set_option linter.unusedVariables false
set_option linter.unusedSimpArgs false

def MayV (n : Int) (v : List Int) : Prop := (1 ≤ n ∧ n ≤ 8 ∧ (v.length : Int) = n) ∧ ∀ i, i < v.length → 0 ≤ v.getD i 0 ∧ v.getD i 0 ≤ 1023
instance (n : Int) (v : List Int) : Decidable (MayV n v) := by unfold MayV; infer_instance
def BelowV (u v : List Int) : Prop := u.length = v.length ∧ ∀ i, i < u.length → u.getD i 0 ≤ v.getD i 0
instance (u v : List Int) : Decidable (BelowV u v) := by unfold BelowV; infer_instance
theorem MayV.len {n : Int} {v : List Int} (h : MayV n v) : v.length ≤ 8 := by have := h.1; omega
theorem MayV.mem {n : Int} {v : List Int} (h : MayV n v) {x : Int} (hx : x ∈ v) : 0 ≤ x ∧ x ≤ 1023 := by
  obtain ⟨i, hi, rfl⟩ := List.mem_iff_getElem.1 hx
  have := h.2 i hi
  rwa [getD_eq v 0 hi] at this
theorem vMay_ev (v : List Int) (n : Int) : Ev (fun k => vector_May k v n) (decide (MayV n v)) := by
  unfold vector_May MayV
  by_cases h : 1 ≤ n ∧ n ≤ 8 ∧ (v.length : Int) = n
  · refine Ev.bind (b := false) ((Ev.now _).congr fun k => ?_) (Ev.neg (by simp) ?_)
    · rw [if_neg (by omega), if_neg (by omega)]; simp [h.2.2]
    simp only [h, true_and]
    refine Ev.all' v.length (fun i => 0 ≤ v.getD i 0 ∧ v.getD i 0 ≤ 1023) (by omega) (fun i hi hp r H => ?_) (fun i hi hp => ?_) ?_ (fun k => rfl) (fun k => rfl)
    · refine Ev.step (fun k => by rw [vector_May_l0, step64 i (by omega), Int.toNat_natCast]) ?_
      refine Ev.pos (by omega) (Ev.pos (by omega) (Ev.bind (b := false) ((Ev.now _).congr fun k => ?_) (Ev.neg (by simp) H)))
      rw [if_neg (by omega), decide_eq_false (by omega)]
    · refine Ev.step (fun k => by rw [vector_May_l0, step64 i (by omega), Int.toNat_natCast]) ?_
      refine Ev.pos (by omega) (Ev.pos (by omega) (Ev.bind (b := true) ((Ev.now _).congr fun k => ?_) (Ev.pos rfl (Ev.now _))))
      by_cases h0 : v.getD i 0 < 0
      · rw [if_pos h0]
      · rw [if_neg h0, decide_eq_true (by omega)]
    · exact Ev.step (fun k => by rw [vector_May_l0]) (Ev.neg (by omega) (Ev.now _))
  · simp only [h, false_and, decide_false]
    refine Ev.bind (b := true) ((Ev.now _).congr fun k => ?_) (Ev.pos rfl (Ev.now _))
    by_cases h1 : n < 1
    · rw [if_pos h1]
    · rw [if_neg h1]
      by_cases h2 : n > 8
      · rw [if_pos h2]
      · rw [if_neg h2, bne_iff_ne.2 (by omega)]
theorem vBelow_ev (u v : List Int) (hu : u.length < 4294967296) : Ev (fun k => vector_Below k u v) (decide (BelowV u v)) := by
  unfold vector_Below BelowV
  refine Ev.ite (fun h => ?_) (fun h => ?_)
  · exact (Ev.now _).is (decide_eq_false (fun H => h (by omega))).symm
  have hl : u.length = v.length := by omega
  simp only [hl, true_and]
  rw [← hl]
  refine Ev.all' u.length (fun i => u.getD i 0 ≤ v.getD i 0) hu (fun i hi hp r H => ?_) (fun i hi hp => ?_) ?_ (fun k => rfl) (fun k => rfl)
  · refine Ev.step (fun k => by rw [vector_Below_l0, step64 i (by omega), Int.toNat_natCast]) ?_
    exact Ev.pos (by omega) (Ev.pos (by omega) (Ev.pos (by omega) (Ev.neg (by omega) H)))
  · refine Ev.step (fun k => by rw [vector_Below_l0, step64 i (by omega), Int.toNat_natCast]) ?_
    exact Ev.pos (by omega) (Ev.pos (by omega) (Ev.pos (by omega) (Ev.pos (by omega) (Ev.now _))))
  · exact Ev.step (fun k => by rw [vector_Below_l0]) (Ev.neg (by omega) (Ev.now _))
theorem rvMay_ev (v : List Int) (n : Int) : Ev (fun k => grapevineref3_May k v n) (decide (MayV n v)) := by
  unfold grapevineref3_May grapevineref3_Many MayV
  by_cases h : 1 ≤ n ∧ n ≤ 8 ∧ (v.length : Int) = n
  · refine Ev.bind (b := false) ((Ev.now _).congr fun k => ?_) (Ev.neg (by simp) ?_)
    · rw [if_pos (by omega)]; simp [h.2.1, h.2.2]
    simp only [h, true_and]
    refine Ev.all' v.length (fun i => 0 ≤ v.getD i 0 ∧ v.getD i 0 ≤ 1023) (by omega) (fun i hi hp r H => ?_) (fun i hi hp => ?_) ?_ (fun k => rfl) (fun k => rfl)
    · refine Ev.step (fun k => by rw [grapevineref3_May_l0, step64 i (by omega), Int.toNat_natCast]) ?_
      refine Ev.pos (by omega) (Ev.bind (b := false) (Ev.pos (by omega) ((Ev.now _).congr fun k => ?_)) (Ev.neg (by simp) H))
      rw [if_neg (by omega), if_pos (by omega), decide_eq_false (by omega)]
    · refine Ev.step (fun k => by rw [grapevineref3_May_l0, step64 i (by omega), Int.toNat_natCast]) ?_
      refine Ev.pos (by omega) (Ev.bind (b := true) (Ev.pos (by omega) ((Ev.now _).congr fun k => ?_)) (Ev.pos rfl (Ev.now _)))
      by_cases h0 : v.getD i 0 < 0
      · rw [if_pos h0]
      · rw [if_neg h0, if_pos (by omega), decide_eq_true (by omega)]
    · exact Ev.step (fun k => by rw [grapevineref3_May_l0]) (Ev.neg (by omega) (Ev.now _))
  · simp only [h, false_and, decide_false]
    refine Ev.bind (b := true) ((Ev.now _).congr fun k => ?_) (Ev.pos rfl (Ev.now _))
    by_cases h1 : n ≥ 1
    · by_cases h2 : n ≤ 8
      · simp [h1, h2, show ¬ (v.length : Int) = n by omega]
      · simp [h1, h2]
    · simp [h1]
theorem rvBelow_ev (u v : List Int) (hu : u.length < 4294967296) : Ev (fun k => grapevineref3_Below k u v) (decide (BelowV u v)) := by
  unfold grapevineref3_Below BelowV
  refine Ev.ite (fun h => ?_) (fun h => ?_)
  · exact (Ev.now _).is (decide_eq_false (fun H => h (by omega))).symm
  have hl : u.length = v.length := by omega
  simp only [hl, true_and]
  rw [← hl]
  refine Ev.all' u.length (fun i => u.getD i 0 ≤ v.getD i 0) hu (fun i hi hp r H => ?_) (fun i hi hp => ?_) ?_ (fun k => rfl) (fun k => rfl)
  · refine Ev.step (fun k => by rw [grapevineref3_Below_l0, step64 i (by omega), Int.toNat_natCast]) ?_
    exact Ev.pos (by omega) (Ev.pos (by omega) (Ev.pos (by omega) (Ev.neg (by omega) H)))
  · refine Ev.step (fun k => by rw [grapevineref3_Below_l0, step64 i (by omega), Int.toNat_natCast]) ?_
    exact Ev.pos (by omega) (Ev.pos (by omega) (Ev.pos (by omega) (Ev.pos (by omega) (Ev.now _))))
  · exact Ev.step (fun k => by rw [grapevineref3_Below_l0]) (Ev.neg (by omega) (Ev.now _))
theorem all_eq {a b : List Int} (h : a.length = b.length) : (∀ i, i < a.length → a.getD i 0 = b.getD i 0) ↔ a = b := ⟨fun H => list_ext_getD h H, fun e _ _ => by rw [e]⟩
theorem SameInts_ev (a b : List Int) (ha : a.length < 4294967296) : Ev (fun k => grapevinelaw0_SameInts k a b) (decide (a = b)) := by
  unfold grapevinelaw0_SameInts
  refine Ev.ite (fun h => ?_) (fun h => ?_)
  · exact (Ev.now _).is (decide_eq_false (fun H => h (by rw [H]))).symm
  have hl : a.length = b.length := by omega
  refine Ev.is (r := decide (∀ i, i < a.length → a.getD i 0 = b.getD i 0)) ?_ (decide_eq_decide.2 (all_eq hl))
  refine Ev.all' a.length (fun i => a.getD i 0 = b.getD i 0) ha (fun i hi hp r H => ?_) (fun i hi hp => ?_) ?_ (fun k => rfl) (fun k => rfl)
  · refine Ev.step (fun k => by rw [grapevinelaw0_SameInts_l0, step64 i (by omega), Int.toNat_natCast]) ?_
    exact Ev.pos (by omega) (Ev.pos (by omega) (Ev.pos (by omega) (Ev.neg (fun h => h hp) H)))
  · refine Ev.step (fun k => by rw [grapevinelaw0_SameInts_l0, step64 i (by omega), Int.toNat_natCast]) ?_
    exact Ev.pos (by omega) (Ev.pos (by omega) (Ev.pos (by omega) (Ev.pos hp (Ev.now _))))
  · exact Ev.step (fun k => by rw [grapevinelaw0_SameInts_l0]) (Ev.neg (by omega) (Ev.now _))
theorem Equal_ev (a b : List Int) (ha : a.length < 4294967296) : Ev (fun k => slices_Equal_int_int k a b) (decide (a = b)) := by
  unfold slices_Equal_int_int
  refine Ev.ite (fun h => ?_) (fun h => ?_)
  · exact (Ev.now _).is (decide_eq_false (fun H => h (by rw [H]))).symm
  have hl : a.length = b.length := by omega
  refine Ev.is (r := decide (∀ i, i < a.length → a.getD i 0 = b.getD i 0)) ?_ (decide_eq_decide.2 (all_eq hl))
  refine Ev.all' a.length (fun i => a.getD i 0 = b.getD i 0) ha (fun i hi hp r H => ?_) (fun i hi hp => ?_) ?_ (fun k => rfl) (fun k => rfl)
  · refine Ev.step (fun k => by rw [slices_Equal_int_int_l0, step64 i (by omega), Int.toNat_natCast]) ?_
    exact Ev.pos (by omega) (Ev.pos (by omega) (Ev.pos (by omega) (Ev.neg (fun h => h hp) H)))
  · refine Ev.step (fun k => by rw [slices_Equal_int_int_l0, step64 i (by omega), Int.toNat_natCast]) ?_
    exact Ev.pos (by omega) (Ev.pos (by omega) (Ev.pos (by omega) (Ev.pos hp (Ev.now _))))
  · exact Ev.step (fun k => by rw [slices_Equal_int_int_l0]) (Ev.neg (by omega) (Ev.now _))
theorem OverInts_ev (a : List Int) (ha : a.length < 1073741824) : Ev (fun k => grapevinelaw0_OverInts k a) () := by
  unfold grapevinelaw0_OverInts
  obtain ⟨r, hr, hE⟩ := Ev.loop (F := fun k (s : Int × List Int) => grapevinelaw0_OverInts_l0 k s.1 s.2) (fun s n => 0 ≤ s.1 ∧ s.1 + n = a.length ∧ s.2.length = a.length) (fun r => r.length = a.length) (fun s n hI => by
    obtain ⟨h0, hn, hl⟩ := hI
    by_cases h1 : s.1 < (s.2.length : Int)
    · refine .inr ⟨(s.1 + 1, s.2.set s.1.toNat (-999)), n - 1, by omega, ⟨by simp; omega, by simp; omega, by simpa using hl⟩, fun r H => ?_⟩
      refine Ev.step (fun k => by rw [grapevinelaw0_OverInts_l0]) ?_
      refine Ev.pos h1 (Ev.pos (by omega) ?_)
      rw [i64w (by omega)]
      exact H
    · refine .inl ⟨s.2, hl, ?_⟩
      refine Ev.step (fun k => by rw [grapevinelaw0_OverInts_l0]) ?_
      exact Ev.neg h1 (Ev.now _)) (0, a) a.length ⟨by simp, by simp, rfl⟩
  refine Ev.bind hE ?_
  exact Ev.pos (by simp; omega) (Ev.now _)
theorem dec_iff {p q : Prop} [Decidable p] [Decidable q] (h : p ↔ q) : decide p = decide q := decide_eq_decide.2 h
theorem len0 (l : List Int) : ((l.length : Int) = 0) ↔ l = [] := by
  rw [← List.length_eq_zero_iff]; omega
theorem beq0 (l : List Int) : ((l.length : Int) == 0) = decide (l = []) := by rw [Bool.eq_iff_iff]; simp only [beq_iff_eq, decide_eq_true_eq]; exact len0 l
def two (x : Int) : List Int := be x.toNat 2
def vb (v : List Int) : List Int := be v.length 1 ++ v.flatMap two
theorem len_vb (v : List Int) : (vb v).length = 1 + 2 * v.length := by
  have : (v.flatMap two).length = 2 * v.length := by
    induction v with
    | nil => rfl
    | cons x v ih => simp [two, len_be, ih]; omega
  simp [vb, len_be, this]
theorem vb_bytes (v : List Int) : Bytes (vb v) := (be_bytes _ _).app fun x hx => by
  obtain ⟨y, _, hy⟩ := List.mem_flatMap.1 hx
  exact be_bytes _ _ x hy
theorem layS_ok {kind : Int} {b : List Int} (h1 : 1 ≤ kind) (h2 : kind ≤ 255) (h : b.length ≤ 65535) : layS kind b = (frameOf kind b, 0) := if_neg (by omega)
theorem nextS_body {l : List Int} (hb : Bytes l) (p : Int) : Bytes (nextS l p).2.1 ∧ (nextS l p).2.1.length ≤ l.length := by
  unfold nextS
  split
  · split
    · rename_i kind body m hm
      unfold nextAt at hm
      split at hm
      · cases hm
      · split at hm
        · split at hm
          · cases hm
            exact ⟨((hb.drop _).take _).drop _, by simp; omega⟩
          · cases hm
        · cases hm
    · exact ⟨Bytes.nil, by simp⟩
  · exact ⟨Bytes.nil, by simp⟩
theorem num_one {l : List Int} {p : Nat} (h : p + 1 ≤ l.length) : num ((l.take (p + 1)).drop p) = l.getD p 0 := by
  rw [drop_getD (l.take (p + 1)) 0 (by simp; omega), List.drop_eq_nil_of_le (by simp; omega), getD_take _ _ (by omega)]
  simp [num, numF]
theorem num_two {l : List Int} {p : Nat} (h : p + 2 ≤ l.length) : num ((l.take (p + 2)).drop p) = l.getD p 0 * 256 + l.getD (p + 1) 0 := by
  rw [drop_getD (l.take (p + 2)) 0 (by simp; omega), drop_getD (l.take (p + 2)) 0 (i := p + 1) (by simp; omega), List.drop_eq_nil_of_le (by simp; omega), getD_take _ _ (by omega), getD_take _ _ (by omega)]
  simp [num, numF]; omega
end Go.Proofs.YtfocilpnbiciaaaDoor.Pure
