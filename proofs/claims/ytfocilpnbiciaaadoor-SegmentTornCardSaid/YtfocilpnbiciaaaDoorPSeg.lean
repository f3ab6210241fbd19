/- Segments' entries in plain words: which may be, their bytes, and how they are read. -/
import Derived.Test.YtfocilpnbiciaaaDoorF0
import Derived.Test.YtfocilpnbiciaaaDoorF1
import Derived.Test.YtfocilpnbiciaaaDoorF4
import Derived.Test.YtfocilpnbiciaaaDoorF6
import Derived.Test.YtfocilpnbiciaaaDoorF8
import Derived.Test.YtfocilpnbiciaaaDoorF10
import Derived.Test.YtfocilpnbiciaaaDoorPRec
import Derived.Test.YtfocilpnbiciaaaDoorPFrm2
namespace Go.Proofs.YtfocilpnbiciaaaDoor.Pure
open Go Go.Gg Go.Gp Gf
set_option linter.unusedVariables false
set_option linter.unusedSimpArgs false

/-! ## Vectors -/
def MayV (n : Int) (v : List Int) : Prop := (1 ≤ n ∧ n ≤ 8 ∧ (v.length : Int) = n) ∧ ∀ i, i < v.length → 0 ≤ v.getD i 0 ∧ v.getD i 0 ≤ 1023
instance (n : Int) (v : List Int) : Decidable (MayV n v) := by unfold MayV; infer_instance
def BelowV (u v : List Int) : Prop := u.length = v.length ∧ ∀ i, i < u.length → u.getD i 0 ≤ v.getD i 0
instance (u v : List Int) : Decidable (BelowV u v) := by unfold BelowV; infer_instance
theorem MayV.len {n : Int} {v : List Int} (h : MayV n v) : v.length ≤ 8 := by have := h.1; omega
theorem MayV.mem {n : Int} {v : List Int} (h : MayV n v) {x : Int} (hx : x ∈ v) : 0 ≤ x ∧ x ≤ 1023 := by
  obtain ⟨i, hi, rfl⟩ := List.mem_iff_getElem.1 hx
  have := h.2 i hi
  rwa [getD_eq v 0 hi] at this
theorem vMay_ev (v : List Int) (n : Int) : Ev (fun k => vector_May k v n) (decide (MayV n v)) := by
  unfold vector_May MayV
  by_cases h : 1 ≤ n ∧ n ≤ 8 ∧ (v.length : Int) = n
  · refine Ev.bind (b := false) ((Ev.now _).congr fun k => ?_) (Ev.neg (by simp) ?_)
    · rw [if_neg (by omega), if_neg (by omega)]; simp [h.2.2]
    simp only [h, true_and]
    refine Ev.all' v.length (fun i => 0 ≤ v.getD i 0 ∧ v.getD i 0 ≤ 1023) (by omega) (fun i hi hp r H => ?_) (fun i hi hp => ?_) ?_ (fun k => rfl) (fun k => rfl)
    · refine Ev.step (fun k => by rw [vector_May_l0, step64 i (by omega), Int.toNat_natCast]) ?_
      refine Ev.pos (by omega) (Ev.pos (by omega) (Ev.bind (b := false) ((Ev.now _).congr fun k => ?_) (Ev.neg (by simp) H)))
      rw [if_neg (by omega), decide_eq_false (by omega)]
    · refine Ev.step (fun k => by rw [vector_May_l0, step64 i (by omega), Int.toNat_natCast]) ?_
      refine Ev.pos (by omega) (Ev.pos (by omega) (Ev.bind (b := true) ((Ev.now _).congr fun k => ?_) (Ev.pos rfl (Ev.now _))))
      by_cases h0 : v.getD i 0 < 0
      · rw [if_pos h0]
      · rw [if_neg h0, decide_eq_true (by omega)]
    · exact Ev.step (fun k => by rw [vector_May_l0]) (Ev.neg (by omega) (Ev.now _))
  · simp only [h, false_and, decide_false]
    refine Ev.bind (b := true) ((Ev.now _).congr fun k => ?_) (Ev.pos rfl (Ev.now _))
    by_cases h1 : n < 1
    · rw [if_pos h1]
    · rw [if_neg h1]
      by_cases h2 : n > 8
      · rw [if_pos h2]
      · rw [if_neg h2, bne_iff_ne.2 (by omega)]
theorem vBelow_ev (u v : List Int) (hu : u.length < 4294967296) : Ev (fun k => vector_Below k u v) (decide (BelowV u v)) := by
  unfold vector_Below BelowV
  refine Ev.ite (fun h => ?_) (fun h => ?_)
  · exact (Ev.now _).is (decide_eq_false (fun H => h (by omega))).symm
  have hl : u.length = v.length := by omega
  simp only [hl, true_and]
  rw [← hl]
  refine Ev.all' u.length (fun i => u.getD i 0 ≤ v.getD i 0) hu (fun i hi hp r H => ?_) (fun i hi hp => ?_) ?_ (fun k => rfl) (fun k => rfl)
  · refine Ev.step (fun k => by rw [vector_Below_l0, step64 i (by omega), Int.toNat_natCast]) ?_
    exact Ev.pos (by omega) (Ev.pos (by omega) (Ev.pos (by omega) (Ev.neg (by omega) H)))
  · refine Ev.step (fun k => by rw [vector_Below_l0, step64 i (by omega), Int.toNat_natCast]) ?_
    exact Ev.pos (by omega) (Ev.pos (by omega) (Ev.pos (by omega) (Ev.pos (by omega) (Ev.now _))))
  · exact Ev.step (fun k => by rw [vector_Below_l0]) (Ev.neg (by omega) (Ev.now _))
theorem rvMay_ev (v : List Int) (n : Int) : Ev (fun k => grapevineref3_May k v n) (decide (MayV n v)) := by
  unfold grapevineref3_May grapevineref3_Many MayV
  by_cases h : 1 ≤ n ∧ n ≤ 8 ∧ (v.length : Int) = n
  · refine Ev.bind (b := false) ((Ev.now _).congr fun k => ?_) (Ev.neg (by simp) ?_)
    · rw [if_pos (by omega)]; simp [h.2.1, h.2.2]
    simp only [h, true_and]
    refine Ev.all' v.length (fun i => 0 ≤ v.getD i 0 ∧ v.getD i 0 ≤ 1023) (by omega) (fun i hi hp r H => ?_) (fun i hi hp => ?_) ?_ (fun k => rfl) (fun k => rfl)
    · refine Ev.step (fun k => by rw [grapevineref3_May_l0, step64 i (by omega), Int.toNat_natCast]) ?_
      refine Ev.pos (by omega) (Ev.bind (b := false) (Ev.pos (by omega) ((Ev.now _).congr fun k => ?_)) (Ev.neg (by simp) H))
      rw [if_neg (by omega), if_pos (by omega), decide_eq_false (by omega)]
    · refine Ev.step (fun k => by rw [grapevineref3_May_l0, step64 i (by omega), Int.toNat_natCast]) ?_
      refine Ev.pos (by omega) (Ev.bind (b := true) (Ev.pos (by omega) ((Ev.now _).congr fun k => ?_)) (Ev.pos rfl (Ev.now _)))
      by_cases h0 : v.getD i 0 < 0
      · rw [if_pos h0]
      · rw [if_neg h0, if_pos (by omega), decide_eq_true (by omega)]
    · exact Ev.step (fun k => by rw [grapevineref3_May_l0]) (Ev.neg (by omega) (Ev.now _))
  · simp only [h, false_and, decide_false]
    refine Ev.bind (b := true) ((Ev.now _).congr fun k => ?_) (Ev.pos rfl (Ev.now _))
    by_cases h1 : n ≥ 1
    · by_cases h2 : n ≤ 8
      · simp [h1, h2, show ¬ (v.length : Int) = n by omega]
      · simp [h1, h2]
    · simp [h1]
theorem rvBelow_ev (u v : List Int) (hu : u.length < 4294967296) : Ev (fun k => grapevineref3_Below k u v) (decide (BelowV u v)) := by
  unfold grapevineref3_Below BelowV
  refine Ev.ite (fun h => ?_) (fun h => ?_)
  · exact (Ev.now _).is (decide_eq_false (fun H => h (by omega))).symm
  have hl : u.length = v.length := by omega
  simp only [hl, true_and]
  rw [← hl]
  refine Ev.all' u.length (fun i => u.getD i 0 ≤ v.getD i 0) hu (fun i hi hp r H => ?_) (fun i hi hp => ?_) ?_ (fun k => rfl) (fun k => rfl)
  · refine Ev.step (fun k => by rw [grapevineref3_Below_l0, step64 i (by omega), Int.toNat_natCast]) ?_
    exact Ev.pos (by omega) (Ev.pos (by omega) (Ev.pos (by omega) (Ev.neg (by omega) H)))
  · refine Ev.step (fun k => by rw [grapevineref3_Below_l0, step64 i (by omega), Int.toNat_natCast]) ?_
    exact Ev.pos (by omega) (Ev.pos (by omega) (Ev.pos (by omega) (Ev.pos (by omega) (Ev.now _))))
  · exact Ev.step (fun k => by rw [grapevineref3_Below_l0]) (Ev.neg (by omega) (Ev.now _))
theorem all_eq {a b : List Int} (h : a.length = b.length) : (∀ i, i < a.length → a.getD i 0 = b.getD i 0) ↔ a = b := ⟨fun H => list_ext_getD h H, fun e _ _ => by rw [e]⟩
theorem SameInts_ev (a b : List Int) (ha : a.length < 4294967296) : Ev (fun k => grapevinelaw0_SameInts k a b) (decide (a = b)) := by
  unfold grapevinelaw0_SameInts
  refine Ev.ite (fun h => ?_) (fun h => ?_)
  · exact (Ev.now _).is (decide_eq_false (fun H => h (by rw [H]))).symm
  have hl : a.length = b.length := by omega
  refine Ev.is (r := decide (∀ i, i < a.length → a.getD i 0 = b.getD i 0)) ?_ (decide_eq_decide.2 (all_eq hl))
  refine Ev.all' a.length (fun i => a.getD i 0 = b.getD i 0) ha (fun i hi hp r H => ?_) (fun i hi hp => ?_) ?_ (fun k => rfl) (fun k => rfl)
  · refine Ev.step (fun k => by rw [grapevinelaw0_SameInts_l0, step64 i (by omega), Int.toNat_natCast]) ?_
    exact Ev.pos (by omega) (Ev.pos (by omega) (Ev.pos (by omega) (Ev.neg (fun h => h hp) H)))
  · refine Ev.step (fun k => by rw [grapevinelaw0_SameInts_l0, step64 i (by omega), Int.toNat_natCast]) ?_
    exact Ev.pos (by omega) (Ev.pos (by omega) (Ev.pos (by omega) (Ev.pos hp (Ev.now _))))
  · exact Ev.step (fun k => by rw [grapevinelaw0_SameInts_l0]) (Ev.neg (by omega) (Ev.now _))
theorem Equal_ev (a b : List Int) (ha : a.length < 4294967296) : Ev (fun k => slices_Equal_int_int k a b) (decide (a = b)) := by
  unfold slices_Equal_int_int
  refine Ev.ite (fun h => ?_) (fun h => ?_)
  · exact (Ev.now _).is (decide_eq_false (fun H => h (by rw [H]))).symm
  have hl : a.length = b.length := by omega
  refine Ev.is (r := decide (∀ i, i < a.length → a.getD i 0 = b.getD i 0)) ?_ (decide_eq_decide.2 (all_eq hl))
  refine Ev.all' a.length (fun i => a.getD i 0 = b.getD i 0) ha (fun i hi hp r H => ?_) (fun i hi hp => ?_) ?_ (fun k => rfl) (fun k => rfl)
  · refine Ev.step (fun k => by rw [slices_Equal_int_int_l0, step64 i (by omega), Int.toNat_natCast]) ?_
    exact Ev.pos (by omega) (Ev.pos (by omega) (Ev.pos (by omega) (Ev.neg (fun h => h hp) H)))
  · refine Ev.step (fun k => by rw [slices_Equal_int_int_l0, step64 i (by omega), Int.toNat_natCast]) ?_
    exact Ev.pos (by omega) (Ev.pos (by omega) (Ev.pos (by omega) (Ev.pos hp (Ev.now _))))
  · exact Ev.step (fun k => by rw [slices_Equal_int_int_l0]) (Ev.neg (by omega) (Ev.now _))
theorem OverInts_ev (a : List Int) (ha : a.length < 1073741824) : Ev (fun k => grapevinelaw0_OverInts k a) () := by
  unfold grapevinelaw0_OverInts
  obtain ⟨r, hr, hE⟩ := Ev.loop (F := fun k (s : Int × List Int) => grapevinelaw0_OverInts_l0 k s.1 s.2) (fun s n => 0 ≤ s.1 ∧ s.1 + n = a.length ∧ s.2.length = a.length) (fun r => r.length = a.length) (fun s n hI => by
    obtain ⟨h0, hn, hl⟩ := hI
    by_cases h1 : s.1 < (s.2.length : Int)
    · refine .inr ⟨(s.1 + 1, s.2.set s.1.toNat (-999)), n - 1, by omega, ⟨by simp; omega, by simp; omega, by simpa using hl⟩, fun r H => ?_⟩
      refine Ev.step (fun k => by rw [grapevinelaw0_OverInts_l0]) ?_
      refine Ev.pos h1 (Ev.pos (by omega) ?_)
      rw [i64w (by omega)]
      exact H
    · refine .inl ⟨s.2, hl, ?_⟩
      refine Ev.step (fun k => by rw [grapevinelaw0_OverInts_l0]) ?_
      exact Ev.neg h1 (Ev.now _)) (0, a) a.length ⟨by simp, by simp, rfl⟩
  refine Ev.bind hE ?_
  exact Ev.pos (by simp; omega) (Ev.now _)

/-! ## Entries -/
def zr : T39 := ⟨0, 0, 0, 0, (⟨#[]⟩ : ByteArray)⟩
def rc (e : T41) : T39 := ⟨e.f3, e.f4, e.f5, e.f6, e.f7⟩
def MayE (e : T41) (n : Int) : Prop :=
  (e.f0 = 1 ∧ rc e = zr ∧ MayV n e.f1 ∧ MayV n e.f2 ∧ BelowV e.f2 e.f1) ∨ (e.f0 = 3 ∧ rc e = zr ∧ e.f1 = [] ∧ MayV n e.f2) ∨
    (e.f0 = 2 ∧ e.f1 = [] ∧ e.f2 = [] ∧ 1 ≤ n ∧ n ≤ 8 ∧ e.f3 < n ∧ Mayr (rc e))
instance (e : T41) (n : Int) : Decidable (MayE e n) := by unfold MayE; infer_instance
theorem MayE.one {e : T41} {n : Int} (h : e.f0 = 1) : MayE e n ↔ rc e = zr ∧ MayV n e.f1 ∧ MayV n e.f2 ∧ BelowV e.f2 e.f1 := by unfold MayE; simp [h]
theorem MayE.three {e : T41} {n : Int} (h : e.f0 = 3) : MayE e n ↔ rc e = zr ∧ e.f1 = [] ∧ MayV n e.f2 := by unfold MayE; simp [h]
theorem MayE.two {e : T41} {n : Int} (h : e.f0 = 2) : MayE e n ↔ e.f1 = [] ∧ e.f2 = [] ∧ 1 ≤ n ∧ n ≤ 8 ∧ e.f3 < n ∧ Mayr (rc e) := by unfold MayE; simp [h]
theorem MayE.no {e : T41} {n : Int} (h1 : ¬ e.f0 = 1) (h2 : ¬ e.f0 = 3) (h3 : ¬ e.f0 = 2) : ¬ MayE e n := by unfold MayE; simp [h1, h2, h3]
theorem dec_iff {p q : Prop} [Decidable p] [Decidable q] (h : p ↔ q) : decide p = decide q := decide_eq_decide.2 h
theorem len0 (l : List Int) : ((l.length : Int) = 0) ↔ l = [] := by
  rw [← List.length_eq_zero_iff]; omega
theorem beq0 (l : List Int) : ((l.length : Int) == 0) = decide (l = []) := by rw [Bool.eq_iff_iff]; simp only [beq_iff_eq, decide_eq_true_eq]; exact len0 l
theorem sMay_ev (e : T41) (n : Int) : Ev (fun k => segment_May k e n) (decide (MayE e n)) := by
  unfold segment_May
  by_cases h1 : e.f0 = 1
  · refine Ev.pos h1 (Ev.bind (b := decide (rc e = zr ∧ MayV n e.f1 ∧ MayV n e.f2 ∧ BelowV e.f2 e.f1)) ?_ ((Ev.now _).is ?_))
    · by_cases h2 : rc e = zr
      · refine Ev.pos h2 (Ev.bind (vMay_ev _ _) ?_)
        by_cases h3 : MayV n e.f1
        · refine Ev.pos (decide_eq_true h3) (Ev.bind (vMay_ev _ _) ?_)
          by_cases h4 : MayV n e.f2
          · refine Ev.pos (decide_eq_true h4) (Ev.bind (vBelow_ev _ _ (by have := h4.len; omega)) ((Ev.now _).is ?_))
            refine dec_iff ?_; simp [h2, h3, h4]
          · refine Ev.neg (by simpa using h4) ((Ev.now _).is ?_); simp [h4]
        · refine Ev.neg (by simpa using h3) ((Ev.now _).is ?_); simp [h3]
      · refine Ev.neg h2 ((Ev.now _).is ?_); simp [h2]
    · exact dec_iff (MayE.one h1).symm
  refine Ev.neg h1 ?_
  by_cases h2 : e.f0 = 3
  · refine Ev.pos h2 (Ev.bind (b := decide (rc e = zr ∧ e.f1 = [] ∧ MayV n e.f2)) ?_ ((Ev.now _).is ?_))
    · by_cases h3 : rc e = zr
      · refine Ev.pos h3 ?_
        by_cases h4 : e.f1 = []
        · refine Ev.pos ((len0 _).2 h4) (Ev.bind (vMay_ev _ _) ((Ev.now _).is ?_))
          refine dec_iff ?_; simp [h3, h4]
        · refine Ev.neg (fun h => h4 ((len0 _).1 h)) ((Ev.now _).is ?_); simp [h4]
      · refine Ev.neg h3 ((Ev.now _).is ?_); simp [h3]
    · exact dec_iff (MayE.three h2).symm
  refine Ev.neg h2 ?_
  by_cases h3 : e.f0 = 2
  · refine Ev.pos h3 ((Ev.now _).congr fun k => ?_)
    have er : (⟨e.f3, e.f4, e.f5, e.f6, e.f7⟩ : T39) = rc e := rfl
    rw [er, May_some, dec_iff (MayE.two h3)]
    simp only [len0]
    by_cases a1 : e.f1 = [] <;> by_cases a2 : e.f2 = [] <;> by_cases a3 : 1 ≤ n <;> by_cases a4 : n ≤ 8 <;> by_cases a5 : e.f3 < n <;> simp [a1, a2, a3, a4, a5]
  · refine Ev.neg h3 ((Ev.now _).is (decide_eq_false (MayE.no h1 h2 h3)).symm)
theorem rsMay_ev (e : T41) (n : Int) : Ev (fun k => grapevineref8_May k e n) (decide (MayE e n)) := by
  unfold grapevineref8_May grapevineref8_blank
  have er : (⟨e.f3, e.f4, e.f5, e.f6, e.f7⟩ : T39) = rc e := rfl
  have ez : (⟨0, 0, 0, 0, (⟨#[]⟩ : ByteArray)⟩ : T39) = zr := rfl
  simp only [er, ez]
  by_cases h1 : e.f0 = 1
  · refine Ev.pos h1 (Ev.bind (b := decide (rc e = zr ∧ MayV n e.f1 ∧ MayV n e.f2 ∧ BelowV e.f2 e.f1)) ?_ ((Ev.now _).is ?_))
    · refine Ev.bind (rvMay_ev _ _) ?_
      by_cases h3 : MayV n e.f1
      · refine Ev.pos (decide_eq_true h3) (Ev.bind (rvMay_ev _ _) ?_)
        by_cases h4 : MayV n e.f2
        · refine Ev.pos (decide_eq_true h4) (Ev.bind (rvBelow_ev _ _ (by have := h4.len; omega)) ?_)
          by_cases h5 : BelowV e.f2 e.f1
          · refine Ev.pos (decide_eq_true h5) ((Ev.now _).is ?_)
            refine dec_iff ?_; simp [h3, h4, h5]
          · refine Ev.neg (by simpa using h5) ((Ev.now _).is ?_); simp [h5]
        · refine Ev.neg (by simpa using h4) ((Ev.now _).is ?_); simp [h4]
      · refine Ev.neg (by simpa using h3) ((Ev.now _).is ?_); simp [h3]
    · exact dec_iff (MayE.one h1).symm
  refine Ev.neg h1 ?_
  by_cases h3 : e.f0 = 2
  · refine Ev.pos h3 ((Ev.now _).congr fun k => ?_)
    rw [rMay_some, dec_iff (MayE.two h3)]
    simp only [len0, beq0, grapevineref3_Many]
    by_cases a1 : e.f1 = [] <;> by_cases a3 : 1 ≤ n <;> by_cases a4 : n ≤ 8 <;> by_cases a5 : e.f3 < n <;> by_cases a6 : Mayr (rc e) <;> simp [a1, a3, a4, a5, a6]
  refine Ev.neg h3 ?_
  by_cases h2 : e.f0 = 3
  · refine Ev.pos h2 (Ev.bind (b := decide (rc e = zr ∧ e.f1 = [] ∧ MayV n e.f2)) ?_ ((Ev.now _).is ?_))
    · refine Ev.bind (rvMay_ev _ _) ?_
      by_cases h4 : MayV n e.f2
      · refine Ev.pos (decide_eq_true h4) ?_
        by_cases h5 : e.f1 = []
        · refine Ev.pos ((len0 _).2 h5) ((Ev.now _).is ?_)
          refine dec_iff ?_; simp [h4, h5]
        · refine Ev.neg (fun h => h5 ((len0 _).1 h)) ((Ev.now _).is ?_); simp [h5]
      · refine Ev.neg (by simpa using h4) ((Ev.now _).is ?_); simp [h4]
    · exact dec_iff (MayE.three h2).symm
  · refine Ev.neg h2 ((Ev.now _).is (decide_eq_false (MayE.no h1 h2 h3)).symm)

/-! ## Their bytes -/
def two (x : Int) : List Int := be x.toNat 2
def vb (v : List Int) : List Int := be v.length 1 ++ v.flatMap two
theorem len_vb (v : List Int) : (vb v).length = 1 + 2 * v.length := by
  have : (v.flatMap two).length = 2 * v.length := by
    induction v with
    | nil => rfl
    | cons x v ih => simp [two, len_be, ih]; omega
  simp [vb, len_be, this]
theorem vb_bytes (v : List Int) : Bytes (vb v) := (be_bytes _ _).app fun x hx => by
  obtain ⟨y, _, hy⟩ := List.mem_flatMap.1 hx
  exact be_bytes _ _ x hy
theorem numbers_ev (l v : List Int) (hv : ∀ x ∈ v, 0 ≤ x ∧ x ≤ 65535) (hl : l.length + 1 + 2 * v.length ≤ 1073741824) : Ev (fun k => segment_numbers k l v) (l ++ vb v) := by
  unfold segment_numbers
  refine Ev.pos (by simp; omega) ?_
  have e0 : [IntKind.u8.wrap (v.length : Int)] = be v.length 1 := by simp [be, byte_of]
  rw [e0]
  refine Ev.name fun w hw => ?_
  subst hw
  refine Ev.bind (b := l ++ vb v) ?_ (Ev.now _)
  have h := Ev.count (F := fun k s i => segment_numbers_l0 v k s i) (r := l ++ vb v) (fun i => l ++ be v.length 1 ++ (v.take i).flatMap two) v.length (fun i hi r H => by
    have hx := hv _ (getD_mem v 0 hi)
    obtain ⟨m, hm⟩ : ∃ m : Nat, v.getD i 0 = (m : Int) := ⟨(v.getD i 0).toNat, by omega⟩
    have e1 : [IntKind.u8.wrap (shrK .i64 (v.getD i 0) 8), IntKind.u8.wrap (v.getD i 0)] = two (v.getD i 0) := by
      have e2 : shrK .i64 (m : Int) 8 = ((m / 256 : Nat) : Int) := by
        have := shr_i64 m 1 (by omega)
        simpa using this
      rw [hm, e2, byte_of, byte_of]; simp [two, be]
    have el : ((v.take i).flatMap two).length = 2 * i := by
      have := len_vb (v.take i)
      simp [vb, len_be] at this
      simp; omega
    refine Ev.step (fun k => by rw [segment_numbers_l0, step64 i (by omega), Int.toNat_natCast, e1]) ?_
    refine Ev.pos (by omega) (Ev.pos (by omega) (Ev.pos (by rw [List.length_append, List.length_append, el, len_be]; simp only [two, len_be]; omega) ?_))
    rw [List.append_assoc (l ++ be v.length 1)]
    have e3 : (v.take (i + 1)).flatMap two = (v.take i).flatMap two ++ two (v.getD i 0) := by rw [take_getD v 0 hi]; simp
    rw [e3] at H
    exact H) (by
    refine Ev.step (fun k => by rw [segment_numbers_l0]) (Ev.neg (by omega) ((Ev.now _).is ?_))
    rw [List.take_of_length_le (Nat.le_refl _), vb, List.append_assoc])
  simpa using h
def bodyE (e : T41) : List Int := if e.f0 = 1 then vb e.f1 ++ vb e.f2 else if e.f0 = 3 then vb e.f2 else lay (rc e)
def Some8 (e : T41) : Prop := ∃ i, i < 8 ∧ MayE e ((i + 1 : Nat) : Int)
instance (e : T41) : Decidable (Some8 e) := by unfold Some8; infer_instance
theorem MayE.some8 {e : T41} {n : Int} (h : MayE e n) : Some8 e := by
  have hn : 1 ≤ n ∧ n ≤ 8 := by
    rcases h with ⟨_, _, h, _⟩ | ⟨_, _, _, h⟩ | ⟨_, _, _, h1, h2, _⟩
    · have := h.1; omega
    · have := h.1; omega
    · omega
  refine ⟨n.toNat - 1, by omega, ?_⟩
  rw [show ((n.toNat - 1 + 1 : Nat) : Int) = n by omega]; exact h
theorem sLay_l0_ev (e : T41) : Ev (fun k => segment_Lay_l0 e k false 0) (decide (Some8 e)) := by
  have h := Ev.count (F := fun k s i => segment_Lay_l0 e k s i) (r := decide (Some8 e)) (fun i => decide (∃ j, j < i ∧ MayE e ((j + 1 : Nat) : Int))) 8 (fun i hi r H => by
    refine Ev.step (fun k => by rw [segment_Lay_l0, step64 i (by omega)]) ?_
    refine Ev.pos (by omega) (Ev.bind ?_ H)
    by_cases h : ∃ j, j < i ∧ MayE e ((j + 1 : Nat) : Int)
    · refine Ev.pos (decide_eq_true h) ((Ev.now _).is (decide_eq_true ?_).symm)
      obtain ⟨j, hj, hm⟩ := h
      exact ⟨j, by omega, hm⟩
    · refine Ev.neg (by simpa using h) (Ev.bind (sMay_ev e _) ((Ev.now _).is ?_))
      rw [decide_eq_decide]
      constructor
      · exact fun hm => ⟨i, by omega, hm⟩
      · rintro ⟨j, hj, hm⟩
        by_cases hji : j = i
        · rw [← hji]; exact hm
        · exact absurd ⟨j, by omega, hm⟩ h) (by
    exact Ev.step (g := fun _ => some (decide (∃ j : Nat, j < 8 ∧ MayE e ((j + 1 : Nat) : Int)))) (fun k => by rw [segment_Lay_l0, if_neg (by omega)]) ((Ev.now _).is (dec_iff Iff.rfl)))
  refine Ev.congr (fun k => ?_) h
  simp
def laidE (e : T41) : List Int × Int := if Some8 e then (frameOf e.f0 (bodyE e), 0) else ([], 2)
theorem Some8.body {e : T41} (h : Some8 e) : (e.f0 = 1 ∨ e.f0 = 2 ∨ e.f0 = 3) ∧ (bodyE e).length ≤ 140 ∧ Bytes (bodyE e) := by
  obtain ⟨i, hi, h⟩ := h
  rcases h with ⟨h0, _, h1, h2, _⟩ | ⟨h0, _, _, h2⟩ | ⟨h0, _, _, _, _, _, h1⟩
  · refine ⟨.inl h0, ?_, ?_⟩
    · have := h1.len; have := h2.len
      simp [bodyE, h0, len_vb]; omega
    · simp only [bodyE, h0, if_true]; exact (vb_bytes _).app (vb_bytes _)
  · refine ⟨.inr (.inr h0), ?_, ?_⟩
    · have := h2.len
      simp [bodyE, h0, len_vb]; omega
    · simp only [bodyE, h0]; exact vb_bytes _
  · refine ⟨.inr (.inl h0), ?_, ?_⟩
    · have := h1.2.2.1
      simp [bodyE, h0, len_lay]; omega
    · simp only [bodyE, h0]; exact lay_bytes _
theorem layS_ok {kind : Int} {b : List Int} (h1 : 1 ≤ kind) (h2 : kind ≤ 255) (h : b.length ≤ 65535) : layS kind b = (frameOf kind b, 0) := if_neg (by omega)
theorem sLay_ev (e : T41) : Ev (fun k => segment_Lay k e) (laidE e) := by
  unfold segment_Lay laidE
  refine Ev.bind (sLay_l0_ev e) ?_
  by_cases h : Some8 e
  · have hb := h.body
    refine Ev.neg (by simp [h]) ?_
    rw [if_pos h]
    obtain ⟨i, hi, hm⟩ := h
    unfold bodyE at hb ⊢
    rcases hm with ⟨h0, _, h1, h2, _⟩ | ⟨h0, _, _, h2⟩ | ⟨h0, _, _, _, _, _, h1⟩
    · have := h1.len; have := h2.len
      simp only [h0, if_true] at hb ⊢
      refine Ev.bind (numbers_ev [] e.f1 (fun x hx => by have := h1.mem hx; omega) (by simp; omega)) ?_
      refine Ev.bind (numbers_ev _ e.f2 (fun x hx => by have := h2.mem hx; omega) (by simp [len_vb]; omega)) ?_
      refine Ev.bind ((frame_Lay_ev _ _).is (layS_ok (by omega) (by omega) (by simp [len_vb]; omega))) ((Ev.now _).is (by simp))
    · have := h2.len
      simp only [h0] at hb ⊢
      refine Ev.neg (by omega) (Ev.pos (by simp) ?_)
      refine Ev.bind (numbers_ev [] e.f2 (fun x hx => by have := h2.mem hx; omega) (by simp; omega)) ?_
      refine Ev.bind ((frame_Lay_ev _ _).is (layS_ok (by omega) (by omega) (by simp [len_vb]; omega))) ((Ev.now _).is (by simp))
    · simp only [h0] at hb ⊢
      refine Ev.neg (by omega) (Ev.neg (by omega) ?_)
      refine Ev.bind ((Lay_ev (rc e)).is (if_pos h1)) ?_
      refine Ev.bind ((frame_Lay_ev _ _).is (layS_ok (by omega) (by omega) (by have := h1.2.2.1; simp [len_lay]; omega))) ((Ev.now _).is (by simp))
  · refine Ev.pos (by simp [h]) ?_
    rw [if_neg h]
    exact Ev.now _
end Go.Proofs.YtfocilpnbiciaaaDoor.Pure
