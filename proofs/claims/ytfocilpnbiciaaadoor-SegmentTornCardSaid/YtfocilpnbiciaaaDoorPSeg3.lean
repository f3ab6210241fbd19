/- Segments' entries in plain words: what the document reads; entries compared and written over. -/
import Derived.Test.YtfocilpnbiciaaaDoorF0
import Derived.Test.YtfocilpnbiciaaaDoorF1
import Derived.Test.YtfocilpnbiciaaaDoorF5
import Derived.Test.YtfocilpnbiciaaaDoorF6
import Derived.Test.YtfocilpnbiciaaaDoorF10
import Derived.Test.YtfocilpnbiciaaaDoorPSeg2
namespace Go.Proofs.YtfocilpnbiciaaaDoor.Pure
open Go Go.Gg Go.Gp Gf
set_option linter.unusedVariables false
set_option linter.unusedSimpArgs false

theorem num_one {l : List Int} {p : Nat} (h : p + 1 ≤ l.length) : num ((l.take (p + 1)).drop p) = l.getD p 0 := by
  rw [drop_getD (l.take (p + 1)) 0 (by simp; omega), List.drop_eq_nil_of_le (by simp; omega), getD_take _ _ (by omega)]
  simp [num, numF]
theorem num_two {l : List Int} {p : Nat} (h : p + 2 ≤ l.length) : num ((l.take (p + 2)).drop p) = l.getD p 0 * 256 + l.getD (p + 1) 0 := by
  rw [drop_getD (l.take (p + 2)) 0 (by simp; omega), drop_getD (l.take (p + 2)) 0 (i := p + 1) (by simp; omega), List.drop_eq_nil_of_le (by simp; omega), getD_take _ _ (by omega), getD_take _ _ (by omega)]
  simp [num, numF]; omega
def takeS (l : List Int) (p : Nat) (n : Int) : List Int × Int × Bool :=
  if p < l.length ∧ l.getD p 0 = n ∧ 2 * n ≤ (l.length : Int) - p - 1 then (nums (l.drop p) n.toNat, (p : Int) + 1 + 2 * n, true) else ([], 0, false)
theorem take_ev {l : List Int} (hb : Bytes l) (hl : l.length < 1073741824) (p : Nat) (hp : p ≤ l.length) (n : Int) : Ev (fun k => grapevineref8_take k l (p : Int) n) (takeS l p n) := by
  unfold grapevineref8_take takeS
  refine Ev.bind (Get_ev hb hl p 1 (by omega) (by omega)) ?_
  by_cases h : p + 1 ≤ l.length
  case neg =>
    rw [if_neg h, if_neg (c := _ ∧ _) (fun hh => by omega)]
    exact Ev.bind (b := true) (Ev.pos (by simp) (Ev.now _)) (Ev.pos rfl (Ev.now _))
  rw [if_pos h, num_one h]
  have hg := hb.get p
  by_cases h2 : l.getD p 0 = n
  case neg =>
    rw [if_neg (c := _ ∧ _) (fun hh => h2 hh.2.1)]
    exact Ev.bind (b := true) (Ev.neg (by simp) (Ev.pos h2 (Ev.now _))) (Ev.pos rfl (Ev.now _))
  obtain ⟨m, rfl⟩ : ∃ m : Nat, n = (m : Int) := ⟨n.toNat, by omega⟩
  have e1 : IntKind.i64.wrap (2 * (m : Int)) = 2 * (m : Int) := i64w (by omega)
  have e2 : IntKind.i64.wrap (IntKind.i64.wrap ((l.length : Int) - (p : Int)) - 1) = (l.length : Int) - p - 1 := by rw [i64w (x := (l.length : Int) - (p : Int)) (by omega), i64w (by omega)]
  have e3 : IntKind.i64.wrap ((p : Int) + 1) = (p : Int) + 1 := i64w (by omega)
  by_cases h3 : 2 * (m : Int) ≤ (l.length : Int) - p - 1
  case neg =>
    rw [if_neg (c := _ ∧ _) (fun hh => h3 hh.2.2)]
    refine Ev.bind (b := true) (Ev.neg (by simp) (Ev.neg (fun hh => hh h2) ((Ev.now _).is ?_))) (Ev.pos rfl (Ev.now _))
    rw [e1, e2]; exact decide_eq_true (by omega)
  rw [if_pos (c := _ ∧ _) ⟨by omega, h2, h3⟩]
  refine Ev.bind (b := false) (Ev.neg (by simp) (Ev.neg (fun hh => hh h2) ((Ev.now _).is ?_))) (Ev.neg (by simp) ?_)
  · rw [e1, e2]; exact decide_eq_false (by omega)
  refine Ev.bind (b := nums (l.drop p) m) ?_ ((Ev.now _).is ?_)
  · have := Ev.count (F := fun k s i => grapevineref8_take_l0 l (p : Int) (m : Int) k s i) (r := nums (l.drop p) m) (fun i => nums (l.drop p) i) m (fun i hi r H => by
      have e4 : IntKind.i64.wrap (IntKind.i64.wrap ((p : Int) + 1) + IntKind.i64.wrap (2 * (i : Int))) = ((p + 1 + 2 * i : Nat) : Int) := by rw [e3, i64w (x := 2 * (i : Int)) (by omega), i64w (by omega)]; omega
      have g := Get_ev hb hl (p + 1 + 2 * i) 2 (by omega) (by omega)
      rw [if_pos (by omega), num_two (by omega)] at g
      refine Ev.step (fun k => by rw [grapevineref8_take_l0, e4, step64 i (by omega)]) ?_
      refine Ev.pos (by omega) (Ev.bind g (Ev.pos (by rw [len_nums]; simp; omega) ?_))
      have e5 : nums (l.drop p) i ++ [l.getD (p + 1 + 2 * i) 0 * 256 + l.getD (p + 1 + 2 * i + 1) 0] = nums (l.drop p) (i + 1) := by
        rw [nums_succ, getD_drop, getD_drop, show p + (1 + 2 * i) = p + 1 + 2 * i by omega, show p + (2 + 2 * i) = p + 1 + 2 * i + 1 by omega]
      rw [e5]; exact H) (by
      exact Ev.step (g := fun _ => some (nums (l.drop p) m)) (fun k => by rw [grapevineref8_take_l0, if_neg (by omega)]) (Ev.now _))
    simpa [nums] using this
  · rw [e3, e1, i64w (by omega)]; simp
theorem take_cases (l : List Int) (p : Nat) (n : Int) (hb : Bytes l) :
    (∃ v r, rv (l.drop p) = some (v, r) ∧ (v.length : Int) = n ∧ takeS l p n = (v, ((p + 1 + 2 * v.length : Nat) : Int), true) ∧ r = l.drop (p + 1 + 2 * v.length) ∧ p + 1 + 2 * v.length ≤ l.length) ∨
      (takeS l p n = ([], 0, false) ∧ ∀ v r, rv (l.drop p) = some (v, r) → (v.length : Int) ≠ n) := by
  have hg := hb.get p
  have e0 : (l.drop p).getD 0 0 = l.getD p 0 := by rw [getD_drop]; rfl
  by_cases h : p < l.length ∧ l.getD p 0 = n ∧ 2 * n ≤ (l.length : Int) - p - 1
  · refine .inl ⟨nums (l.drop p) n.toNat, (l.drop p).drop (1 + 2 * n.toNat), ?_, ?_, ?_, ?_, ?_⟩
    · unfold rv
      rw [e0, h.2.1, if_pos (by rw [List.length_drop]; omega)]
    · rw [len_nums]; omega
    · unfold takeS; rw [if_pos h, len_nums]; congr 2; omega
    · rw [len_nums, List.drop_drop]; congr 1; omega
    · rw [len_nums]; omega
  · refine .inr ⟨if_neg h, fun v r hr hn => h ?_⟩
    obtain ⟨h1, _, h2, h3, _⟩ := rv_len hr
    rw [e0] at h1
    rw [List.length_drop] at h2 h3
    exact ⟨by omega, by omega, by omega⟩
theorem MayE.f1 {e : T41} {n : Int} (h : MayE e n) (h0 : e.f0 = 1) : (e.f1.length : Int) = n := ((MayE.one h0).1 h).2.1.1.2.2
theorem MayE.f2 {e : T41} {n : Int} (h : MayE e n) (h0 : e.f0 = 1 ∨ e.f0 = 3) : (e.f2.length : Int) = n := by
  rcases h0 with h0 | h0
  · exact ((MayE.one h0).1 h).2.2.1.1.2.2
  · exact ((MayE.three h0).1 h).2.2.1.2.2
theorem rentry_ev {l : List Int} (hb : Bytes l) (hl : l.length < 1073741824) (kind n : Int) : ∃ t b, Ev (fun k => grapevineref8_entry k kind l n) (t, b) ∧ readE kind l n = if b = true then some t else none := by
  unfold grapevineref8_entry
  have d0 : l.drop 0 = l := rfl
  by_cases h1 : kind = 1
  · have hz := take_ev hb hl 0 (by omega) n
    rcases take_cases l 0 n hb with ⟨v, r, hv, hn, ht, hr, hle⟩ | ⟨ht, hno⟩
    · rw [ht] at hz
      have hz2 := take_ev hb hl (0 + 1 + 2 * v.length) hle n
      rw [d0] at hv
      rcases take_cases l (0 + 1 + 2 * v.length) n hb with ⟨w, r', hw, hn2, ht2, hr2, hle2⟩ | ⟨ht2, hno2⟩
      · rw [ht2] at hz2
        rw [← hr] at hw
        have hre : readE kind l n = if r' = [] ∧ MayE ⟨kind, v, w, 0, 0, 0, 0, ⟨#[]⟩⟩ n then some ⟨kind, v, w, 0, 0, 0, 0, ⟨#[]⟩⟩ else none := by
          unfold readE entS; simp only [h1, if_true, hv, hw]; simp
        have hq : r' = [] ↔ (((0 + 1 + 2 * v.length) + 1 + 2 * w.length : Nat) : Int) = (l.length : Int) := by rw [hr2, List.drop_eq_nil_iff]; omega
        refine ⟨⟨kind, v, w, 0, 0, 0, 0, ⟨#[]⟩⟩, decide (r' = [] ∧ MayE ⟨kind, v, w, 0, 0, 0, 0, ⟨#[]⟩⟩ n), ?_, by rw [hre]; simp⟩
        refine Ev.pos h1 (Ev.bind hz (Ev.pos rfl (Ev.bind hz2 ?_)))
        refine Ev.bind (b := (decide (r' = [] ∧ MayE ⟨kind, v, w, 0, 0, 0, 0, ⟨#[]⟩⟩ n), ⟨kind, v, w, 0, 0, 0, 0, ⟨#[]⟩⟩)) (Ev.pos rfl ?_) (Ev.now _)
        by_cases h2 : r' = []
        · refine Ev.pos (hq.1 h2) (Ev.bind (rsMay_ev _ _) ((Ev.now _).is ?_))
          simp [h2]
        · refine Ev.neg (fun hh => h2 (hq.2 hh)) ((Ev.now _).is ?_)
          simp [h2]
      · rw [ht2] at hz2
        refine ⟨⟨kind, v, [], 0, 0, 0, 0, ⟨#[]⟩⟩, false, ?_, ?_⟩
        · refine Ev.pos h1 (Ev.bind hz (Ev.pos rfl (Ev.bind hz2 ?_)))
          exact Ev.bind (b := (false, ⟨kind, v, [], 0, 0, 0, 0, ⟨#[]⟩⟩)) (Ev.neg (by simp) (Ev.now _)) (Ev.now _)
        · unfold readE entS
          simp only [h1, if_true, hv]
          rw [← hr] at hno2
          cases hw : rv r with
          | none => simp
          | some wr =>
            obtain ⟨w, r'⟩ := wr
            refine if_neg fun hh => hno2 w r' hw ?_
            exact MayE.f2 hh.2.2 (.inl rfl)
    · rw [ht] at hz
      rw [d0] at hno
      refine ⟨⟨kind, [], [], 0, 0, 0, 0, ⟨#[]⟩⟩, false, ?_, ?_⟩
      · refine Ev.pos h1 (Ev.bind hz (Ev.neg (by simp) ?_))
        exact Ev.bind (b := (false, ⟨kind, [], [], 0, 0, 0, 0, ⟨#[]⟩⟩)) (Ev.neg (by simp) (Ev.now _)) (Ev.now _)
      · unfold readE entS
        simp only [h1, if_true]
        cases hv : rv l with
        | none => simp
        | some vr =>
          obtain ⟨v, r⟩ := vr
          have := hno v r hv
          cases hw : rv r with
          | none => simp [hw]
          | some wr =>
            obtain ⟨w, r'⟩ := wr
            simp only [hw]
            exact if_neg fun hh => this (MayE.f1 hh.2.2 rfl)
  by_cases h2 : kind = 2
  · have hz := rRead_ev hb hl (a := 0) (by omega)
    have hrg := rd_range hb
    have hre : readE kind l n = if (rd l 0).2.2 = true ∧ (rd l 0).2.1 = (l.length : Int) ∧ MayE ⟨kind, [], [], (rd l 0).1.f0, (rd l 0).1.f1, (rd l 0).1.f2, (rd l 0).1.f3, (rd l 0).1.f4⟩ n then some ⟨kind, [], [], (rd l 0).1.f0, (rd l 0).1.f1, (rd l 0).1.f2, (rd l 0).1.f3, (rd l 0).1.f4⟩ else none := by
      have e3 : l.drop (rd l 0).2.1.toNat = [] ↔ (rd l 0).2.1 = (l.length : Int) := by rw [List.drop_eq_nil_iff]; omega
      unfold readE entS
      rw [if_neg h1, if_neg (show ¬ kind = 3 by omega), if_pos h2]
      simp only [e3, Bool.not_eq_false']
    generalize rd l 0 = t at hz hrg hre
    refine ⟨⟨kind, [], [], t.1.f0, t.1.f1, t.1.f2, t.1.f3, t.1.f4⟩, decide (t.2.2 = true ∧ t.2.1 = (l.length : Int) ∧ MayE ⟨kind, [], [], t.1.f0, t.1.f1, t.1.f2, t.1.f3, t.1.f4⟩ n), ?_, by rw [hre]; simp⟩
    refine Ev.neg h1 (Ev.pos h2 (Ev.bind hz ?_))
    refine Ev.bind (b := (decide (t.2.2 = true ∧ t.2.1 = (l.length : Int) ∧ MayE ⟨kind, [], [], t.1.f0, t.1.f1, t.1.f2, t.1.f3, t.1.f4⟩ n), ⟨kind, [], [], t.1.f0, t.1.f1, t.1.f2, t.1.f3, t.1.f4⟩)) ?_ (Ev.now _)
    by_cases h3 : t.2.2 = true
    · refine Ev.pos h3 ?_
      by_cases h4 : t.2.1 = (l.length : Int)
      · refine Ev.pos h4 (Ev.bind (rsMay_ev _ _) ((Ev.now _).is ?_))
        simp [h3, h4]
      · refine Ev.neg h4 ((Ev.now _).is ?_); simp [h4]
    · refine Ev.neg h3 ((Ev.now _).is ?_); simp [h3]
  by_cases h3 : kind = 3
  · have hz := take_ev hb hl 0 (by omega) n
    rcases take_cases l 0 n hb with ⟨v, r, hv, hn, ht, hr, hle⟩ | ⟨ht, hno⟩
    · rw [ht] at hz
      rw [d0] at hv
      have hre : readE kind l n = if r = [] ∧ MayE ⟨kind, [], v, 0, 0, 0, 0, ⟨#[]⟩⟩ n then some ⟨kind, [], v, 0, 0, 0, 0, ⟨#[]⟩⟩ else none := by
        unfold readE entS; simp only [h3, if_true, hv]; simp
      have hq : r = [] ↔ ((0 + 1 + 2 * v.length : Nat) : Int) = (l.length : Int) := by rw [hr, List.drop_eq_nil_iff]; omega
      refine ⟨⟨kind, [], v, 0, 0, 0, 0, ⟨#[]⟩⟩, decide (r = [] ∧ MayE ⟨kind, [], v, 0, 0, 0, 0, ⟨#[]⟩⟩ n), ?_, by rw [hre]; simp⟩
      refine Ev.neg h1 (Ev.neg h2 (Ev.pos h3 (Ev.bind hz ?_)))
      refine Ev.bind (b := (decide (r = [] ∧ MayE ⟨kind, [], v, 0, 0, 0, 0, ⟨#[]⟩⟩ n), ⟨kind, [], v, 0, 0, 0, 0, ⟨#[]⟩⟩)) (Ev.pos rfl ?_) (Ev.now _)
      by_cases h4 : r = []
      · refine Ev.pos (hq.1 h4) (Ev.bind (rsMay_ev _ _) ((Ev.now _).is ?_))
        simp [h4]
      · refine Ev.neg (fun hh => h4 (hq.2 hh)) ((Ev.now _).is ?_)
        simp [h4]
    · rw [ht] at hz
      rw [d0] at hno
      refine ⟨⟨kind, [], [], 0, 0, 0, 0, ⟨#[]⟩⟩, false, ?_, ?_⟩
      · refine Ev.neg h1 (Ev.neg h2 (Ev.pos h3 (Ev.bind hz ?_)))
        exact Ev.bind (b := (false, ⟨kind, [], [], 0, 0, 0, 0, ⟨#[]⟩⟩)) (Ev.neg (by simp) (Ev.now _)) (Ev.now _)
      · unfold readE entS
        simp only [h3, if_true]
        cases hv : rv l with
        | none => simp
        | some vr =>
          obtain ⟨v, r⟩ := vr
          have := hno v r hv
          simp only [if_neg (show ¬ (3 : Int) = 1 by omega)]
          exact if_neg fun hh => this (MayE.f2 hh.2.2 (.inr rfl))
  · refine ⟨⟨kind, [], [], 0, 0, 0, 0, ⟨#[]⟩⟩, false, Ev.neg h1 (Ev.neg h2 (Ev.neg h3 (Ev.now _))), ?_⟩
    unfold readE entS
    rw [if_neg h1, if_neg h3, if_neg h2]
    exact if_neg fun hh => MayE.no h1 h3 h2 hh.2.2
theorem nextS_end (l : List Int) {p : Int} (h : (l.length : Int) ≤ p) : (nextS l p).2.2.2 = false := by
  unfold nextS
  split
  · rename_i h1
    have : l.drop p.toNat = [] := List.drop_eq_nil_of_le (by omega)
    rw [this]; rfl
  · rfl
theorem rRead_l0_ev {l : List Int} (hb : Bytes l) (hl : l.length < 1073741824) (n : Int) : ∀ (f : Nat) (es : List T41) (p : Int), 0 ≤ p → p ≤ (l.length : Int) → (l.length : Int) - p < f → (es.length : Int) ≤ p → ((es.length : Int) = 0 ↔ p = 0) →
    Ev (fun k => grapevineref8_Read_l0 l n k es p) (segR l n f es p)
  | 0, es, p, h0, h1, h2, h3, _ => absurd h2 (by omega)
  | f + 1, es, p, h0, h1, h2, h3, hes => by
    refine Ev.step (fun k => by rw [grapevineref8_Read_l0]) ?_
    rw [segR]
    by_cases hp : p < (l.length : Int)
    case neg =>
      rw [if_neg (c := _ ∧ _) (fun h => by have := nextS_end l (p := p) (by omega); rw [this] at h; exact absurd h.1 (by simp))]
      exact Ev.neg hp (Ev.now _)
    refine Ev.pos hp (Ev.bind (rNext_ev l p hb (by omega) (by omega)) ?_)
    have hbd := nextS_body hb p
    by_cases h4 : (nextS l p).2.2.2 = true
    · have hok := nextS_ok h4
      obtain ⟨t, b, hE, hr⟩ := rentry_ev hbd.1 (by omega) (nextS l p).1 n
      refine Ev.neg (by rw [h4]; simp) (Ev.bind hE ?_)
      by_cases h5 : (nextS l p).1 = 1 ↔ p = 0
      · rw [if_pos (c := _ ∧ _) ⟨h4, h5⟩, hr]
        cases b with
        | true =>
          refine Ev.bind (b := false) (Ev.neg (by simp) ((Ev.now _).is ?_)) (Ev.neg (by simp) (Ev.pos (by simp; omega) ?_))
          · rw [beq2, decide_eq_false (p := ¬ _) (fun h => h (h5.trans hes.symm))]
          · refine rRead_l0_ev hb hl n f _ _ (by omega) (by omega) (by omega) (by simp; omega) ?_
            simp; omega
        | false => exact Ev.bind (b := true) (Ev.pos (by simp) (Ev.now _)) (Ev.pos rfl (Ev.now _))
      · rw [if_neg (c := _ ∧ _) (fun h => h5 h.2)]
        refine Ev.bind (b := true) ?_ (Ev.pos rfl (Ev.now _))
        cases b with
        | true =>
          refine Ev.neg (by simp) ((Ev.now _).is ?_)
          rw [beq2, decide_eq_true (p := ¬ _) (fun h => h5 (h.trans hes))]
        | false => exact Ev.pos (by simp) (Ev.now _)
    · rw [if_neg (c := _ ∧ _) (fun h => h4 h.1)]
      exact Ev.pos (by simpa using h4) (Ev.now _)
theorem rsRead_ev {l : List Int} (hb : Bytes l) (hl : l.length < 1073741824) (n : Int) : Ev (fun k => grapevineref8_Read k l n) (segS l n) := by
  unfold grapevineref8_Read
  exact Ev.bind (rRead_l0_ev hb hl n (l.length + 1) [] 0 (by omega) (by omega) (by omega) (by simp) (by simp)) (Ev.now _)

/-! ## Entries compared, and written over -/
theorem ext41 {a b : List T41} (hl : a.length = b.length) : (∀ i, i < a.length → a.getD i z41 = b.getD i z41) ↔ a = b := by
  refine ⟨fun h => List.ext_getElem hl fun i h1 h2 => ?_, fun e _ _ => by rw [e]⟩
  have := h i h1
  rwa [getD_eq a z41 h1, getD_eq b z41 h2] at this
theorem eq41 (a b : T41) : a = b ↔ a.f0 = b.f0 ∧ rc a = rc b ∧ a.f1 = b.f1 ∧ a.f2 = b.f2 := by
  obtain ⟨_, _, _, _, _, _, _, _⟩ := a
  obtain ⟨_, _, _, _, _, _, _, _⟩ := b
  simp only [rc, T41.mk.injEq, T39.mk.injEq]
  constructor
  · rintro ⟨h0, h1, h2, h3, h4, h5, h6, h7⟩; exact ⟨h0, ⟨h3, h4, h5, h6, h7⟩, h1, h2⟩
  · rintro ⟨h0, ⟨h3, h4, h5, h6, h7⟩, h1, h2⟩; exact ⟨h0, h1, h2, h3, h4, h5, h6, h7⟩
def Small (l : List T41) : Prop := l.length < 1073741823 ∧ ∀ e ∈ l, e.f1.length < 1073741823 ∧ e.f2.length < 1073741823
theorem Small.get {l : List T41} (h : Small l) (i : Nat) : (l.getD i z41).f1.length < 1073741823 ∧ (l.getD i z41).f2.length < 1073741823 := by
  by_cases hi : i < l.length
  · exact h.2 _ (getD_mem l z41 hi)
  · rw [getD_over l z41 (by omega)]; simp [z41]
theorem Small.of {l : List T41} {n : Int} (hl : l.length < 1073741823) (h : ∀ e ∈ l, MayE e n) : Small l := ⟨hl, fun e he => by have := (h e he).lens; omega⟩
theorem SameEntries_ev {a b : List T41} (ha : Small a) : Ev (fun k => grapevinelaw0_SameEntries k a b) (decide (a = b)) := by
  unfold grapevinelaw0_SameEntries
  refine Ev.ite (fun h => ?_) (fun h => ?_)
  · exact (Ev.now _).is (decide_eq_false (fun H => h (by rw [H]))).symm
  have hl : a.length = b.length := by omega
  have hsz := ha.1
  refine Ev.is (r := decide (∀ i, i < a.length → a.getD i z41 = b.getD i z41)) ?_ (decide_eq_decide.2 (ext41 hl))
  have one : ∀ i, i < a.length → Ev (fun k => (if 0 ≤ (i : Int) ∧ (i : Int) < (a.length : Int) then (if 0 ≤ (i : Int) ∧ (i : Int) < (b.length : Int) then (if ¬ ((a.getD i z41).f0) = ((b.getD i z41).f0) then some true else (if 0 ≤ (i : Int) ∧ (i : Int) < (a.length : Int) then (if 0 ≤ (i : Int) ∧ (i : Int) < (b.length : Int) then (if ¬ (⟨(a.getD i z41).f3, (a.getD i z41).f4, (a.getD i z41).f5, (a.getD i z41).f6, (a.getD i z41).f7⟩ : T39) = (⟨(b.getD i z41).f3, (b.getD i z41).f4, (b.getD i z41).f5, (b.getD i z41).f6, (b.getD i z41).f7⟩ : T39) then some true else (if 0 ≤ (i : Int) ∧ (i : Int) < (a.length : Int) then (if 0 ≤ (i : Int) ∧ (i : Int) < (b.length : Int) then ((grapevinelaw0_SameInts k ((a.getD i z41).f1) ((b.getD i z41).f1)).bind fun t30 => (if (!t30) = true then some true else (if 0 ≤ (i : Int) ∧ (i : Int) < (a.length : Int) then (if 0 ≤ (i : Int) ∧ (i : Int) < (b.length : Int) then ((grapevinelaw0_SameInts k ((a.getD i z41).f2) ((b.getD i z41).f2)).bind fun t41 => some (!t41)) else none) else none))) else none) else none)) else none) else none)) else none) else none)) (decide (¬ a.getD i z41 = b.getD i z41)) := fun i hi => by
    have c1 : 0 ≤ (i : Int) ∧ (i : Int) < (a.length : Int) := by omega
    have c2 : 0 ≤ (i : Int) ∧ (i : Int) < (b.length : Int) := by omega
    have hs := ha.get i
    generalize a.getD i z41 = x at hs ⊢
    generalize b.getD i z41 = y
    refine Ev.pos c1 (Ev.pos c2 ?_)
    by_cases h1 : x.f0 = y.f0
    case neg => exact Ev.pos h1 ((Ev.now _).is (decide_eq_true (p := ¬ _) (fun e => h1 (by rw [e]))).symm)
    refine Ev.neg (fun h => h h1) (Ev.pos c1 (Ev.pos c2 ?_))
    by_cases h2 : rc x = rc y
    case neg => exact Ev.pos h2 ((Ev.now _).is (decide_eq_true (p := ¬ _) (fun e => h2 (by rw [e]))).symm)
    refine Ev.neg (fun h => h h2) (Ev.pos c1 (Ev.pos c2 (Ev.bind (SameInts_ev _ _ (by omega)) ?_)))
    by_cases h3 : x.f1 = y.f1
    case neg => exact Ev.pos (by simp [h3]) ((Ev.now _).is (decide_eq_true (p := ¬ _) (fun e => h3 (by rw [e]))).symm)
    refine Ev.neg (by simp [h3]) (Ev.pos c1 (Ev.pos c2 (Ev.bind (SameInts_ev _ _ (by omega)) ((Ev.now _).is ?_))))
    rw [dec_iff (not_congr (eq41 x y))]
    simp [h1, h2, h3]
  refine Ev.all' a.length (fun i => a.getD i z41 = b.getD i z41) (by omega) (fun i hi hp r H => ?_) (fun i hi hp => ?_) ?_ (fun k => rfl) (fun k => rfl)
  · refine Ev.step (fun k => by rw [grapevinelaw0_SameEntries_l0, step64 i (by omega), Int.toNat_natCast]) ?_
    refine Ev.pos (by omega) (Ev.bind (one i hi) (Ev.neg (by rw [decide_eq_false (p := ¬ _) (fun h => h hp)]; simp) H))
  · refine Ev.step (fun k => by rw [grapevinelaw0_SameEntries_l0, step64 i (by omega), Int.toNat_natCast]) ?_
    exact Ev.pos (by omega) (Ev.bind (one i hi) (Ev.pos (decide_eq_true hp) (Ev.now _)))
  · exact Ev.step (fun k => by rw [grapevinelaw0_SameEntries_l0]) (Ev.neg (by omega) (Ev.now _))
theorem OverEntries_ev {a : List T41} (ha : Small a) : Ev (fun k => grapevinelaw0_OverEntries k a) () := by
  unfold grapevinelaw0_OverEntries
  obtain ⟨r, hr, hE⟩ := Ev.loop (F := fun k (s : Int × List T41) => grapevinelaw0_OverEntries_l0 k s.1 s.2) (fun s n => 0 ≤ s.1 ∧ s.1 + n = a.length ∧ s.2.length = a.length ∧ Small s.2) (fun r => True) (fun s n hI => by
    obtain ⟨h0, hn, hl, hs⟩ := hI
    have hal := ha.1
    by_cases h1 : s.1 < (s.2.length : Int)
    · refine .inr ⟨(s.1 + 1, s.2.set s.1.toNat ⟨-9, [], [], 0, 0, 0, 0, ⟨#[]⟩⟩), n - 1, by omega, ⟨by simp; omega, by simp; omega, by simpa using hl, by rw [List.length_set]; omega, fun e he => ?_⟩, fun r H => ?_⟩
      · rcases List.mem_or_eq_of_mem_set he with he | he
        · exact hs.2 e he
        · rw [he]; simp
      · have hg := hs.get s.1.toNat
        refine Ev.step (fun k => by rw [grapevinelaw0_OverEntries_l0]) ?_
        refine Ev.pos h1 (Ev.pos (by omega) (Ev.bind (OverInts_ev _ (by omega)) (Ev.pos (by omega) (Ev.bind (OverInts_ev _ (by omega)) (Ev.pos (by omega) ?_)))))
        rw [i64w (by omega)]
        exact H
    · refine .inl ⟨(), trivial, ?_⟩
      refine Ev.step (fun k => by rw [grapevinelaw0_OverEntries_l0]) ?_
      exact Ev.neg h1 (Ev.now _)) (0, a) a.length ⟨by simp, by simp, rfl, ha⟩
  exact Ev.bind hE (Ev.now _)
theorem sSame_ev {a b : T41} (h1 : a.f1.length < 4294967296) (h2 : a.f2.length < 4294967296) : Ev (fun k => segment_Same k a b) (decide (a = b)) := by
  unfold segment_Same record_Same
  refine Ev.bind (b := decide (a = b)) ?_ (Ev.now _)
  have hd := dec_iff (eq41 a b)
  by_cases c0 : a.f0 = b.f0
  case neg => exact Ev.neg c0 ((Ev.now _).is (by rw [hd]; simp [c0]))
  refine Ev.pos c0 (Ev.bind (Equal_ev _ _ h1) ?_)
  by_cases c1 : a.f1 = b.f1
  case neg => exact Ev.neg (by simpa using c1) ((Ev.now _).is (by rw [hd]; simp [c1]))
  refine Ev.pos (decide_eq_true c1) (Ev.bind (Equal_ev _ _ h2) ?_)
  by_cases c2 : a.f2 = b.f2
  case neg => exact Ev.neg (by simpa using c2) ((Ev.now _).is (by rw [hd]; simp [c2]))
  refine Ev.pos (decide_eq_true c2) ((Ev.now _).is ?_)
  rw [hd]
  exact dec_iff (by simp [c0, c1, c2, rc])

/-! ## Frames read one by one -/
theorem segR_next {e : T41} {n : Int} (h : MayE e n) {pre post : List Int} (h0 : e.f0 = 1 ↔ pre.length = 0) (f : Nat) (es : List T41) :
    segR (pre ++ (frameOf e.f0 (bodyE e) ++ post)) n (f + 1) es (pre.length : Int) = segR (pre ++ (frameOf e.f0 (bodyE e) ++ post)) n f (es ++ [e]) ((pre.length + (frameOf e.f0 (bodyE e)).length : Nat) : Int) := by
  have hb := h.some8.body
  rw [segR, nextS_frame (by omega) (by omega)]
  simp only
  rw [if_pos (by simp only [true_and]; rw [h0]; omega), readE_body h.some8, if_pos h]
  simp only
  rw [len_frameOf]
  congr 1
theorem segR_stop {l : List Int} {n : Int} {p : Int} (h : (nextS l p).2.2.2 = false ∨ ¬ ((nextS l p).1 = 1 ↔ p = 0) ∨ readE (nextS l p).1 (nextS l p).2.1 n = none) : ∀ (f : Nat) (es : List T41), segR l n f es p = (es, p)
  | 0, es => rfl
  | f + 1, es => by
    rw [segR]
    rcases h with h | h | h
    · exact if_neg fun hh => by rw [h] at hh; exact absurd hh.1 (by simp)
    · exact if_neg fun hh => h hh.2
    · split
      · rw [h]
      · rfl
def base8 : T41 := ⟨1, [2, 0], [1, 0], 0, 0, 0, 0, ⟨#[]⟩⟩
theorem base8_may : MayE base8 2 := by decide +kernel
theorem awake8_ev : Ev (fun k => grapevinelaw8_awake k) true := by
  unfold grapevinelaw8_awake
  have hone : grapevinelaw8_base = some base8 := rfl
  simp only [hone, Option.bind_some]
  have hlaid : laidE base8 = (frameOf 1 (bodyE base8), 0) := if_pos base8_may.some8
  have hlen : (frameOf 1 (bodyE base8)).length = 22 := by rw [len_frameOf]; decide +kernel
  have hby : Bytes (frameOf 1 (bodyE base8)) := frameOf_bytes _ base8_may.some8.body.2.2
  refine Ev.bind ((sLay_ev _).is hlaid) (Ev.pos (by simp only [hlen, List.length_nil]; omega) (Ev.pos (by simp only [List.nil_append, hlen]; omega) ?_))
  have hrd : segS (frameOf 1 (bodyE base8) ++ frameOf 1 (bodyE base8)) 2 = ([base8], 22) := by
    unfold segS
    have h1 := segR_next base8_may (pre := []) (post := frameOf 1 (bodyE base8)) (by simp [base8]) ((frameOf 1 (bodyE base8) ++ frameOf 1 (bodyE base8)).length) []
    simp only [List.nil_append, List.length_nil, Nat.zero_add] at h1
    refine h1.trans ?_
    rw [show (frameOf base8.f0 (bodyE base8)) = frameOf 1 (bodyE base8) from rfl, hlen]
    refine segR_stop (.inr (.inl ?_)) _ _
    have h2 := nextS_frame (kind := 1) (body := bodyE base8) (ahead := frameOf 1 (bodyE base8)) (rest := []) (by omega) (by have := base8_may.some8.body; omega)
    rw [List.append_nil, hlen] at h2
    have h3 : nextS (frameOf 1 (bodyE base8) ++ frameOf 1 (bodyE base8)) ((22 : Nat) : Int) = _ := h2
    rw [h3]
    simp
  simp only [List.nil_append]
  refine Ev.bind ((sRead_ev (hby.app hby) (by simp only [List.length_append, hlen]; omega) 2).is hrd) ?_
  refine Ev.bind (b := true) (Ev.pos (by simp) (Ev.pos (by simp only [hlen]; omega) (Ev.pos (by simp) (Ev.pos (by simp) (Ev.pos (by simp) ?_))))) (Ev.now _)
  refine Ev.bind ((sSame_ev (b := base8) (by simp [base8]) (by simp [base8])).is (decide_eq_true rfl)) (Ev.pos rfl ?_)
  refine Ev.bind ((sMay_ev _ _).is (decide_eq_true base8_may)) (Ev.pos rfl ?_)
  refine Ev.bind ((sMay_ev _ _).is (decide_eq_false (by decide +kernel))) (Ev.now _)
end Go.Proofs.YtfocilpnbiciaaaDoor.Pure
