/- Bytes compared, lent, kept and written over, in plain words. -/
import Derived.Test.YtanogihdhnhpaaaF1
import Derived.Test.YtanogihdhnhpaaaPDigest
import Derived.Laws.Strings
namespace Go.Proofs.Ytanogihdhnhpaaa.Pure
open Go Go.Gg Go.Gp Gf
set_option linter.unusedVariables false

def Bytes (l : List Int) : Prop := ∀ x ∈ l, 0 ≤ x ∧ x < 256
theorem Bytes.of {l : List Int} (h : ∀ x ∈ l, (Lit.int .u8 x).wf = true) : Bytes l := fun x hx => wf_u8 (h x hx)
theorem Bytes.app {a b : List Int} (ha : Bytes a) (hb : Bytes b) : Bytes (a ++ b) := fun x hx => (List.mem_append.1 hx).elim (ha x) (hb x)
theorem Bytes.take {a : List Int} (ha : Bytes a) (n : Nat) : Bytes (a.take n) := fun x hx => ha x (List.mem_of_mem_take hx)
theorem Bytes.drop {a : List Int} (ha : Bytes a) (n : Nat) : Bytes (a.drop n) := fun x hx => ha x (List.mem_of_mem_drop hx)
theorem Bytes.get {a : List Int} (ha : Bytes a) (n : Nat) : 0 ≤ a.getD n 0 ∧ a.getD n 0 < 256 := by
  by_cases h : n < a.length
  · exact ha _ (getD_mem a 0 h)
  · rw [show a.getD n 0 = 0 by simp [List.getD_eq_getElem?_getD, List.getElem?_eq_none (by omega : a.length ≤ n)]]; omega
theorem be8_bytes (d : Int) : Bytes (be8 d) := by
  intro x hx
  simp only [be8, List.mem_cons, List.not_mem_nil, or_false] at hx
  rcases hx with rfl | rfl | rfl | rfl | rfl | rfl | rfl | rfl <;> (rw [wrap_u8]; omega)
theorem len_be8 (d : Int) : (be8 d).length = 8 := rfl

theorem shr64 (x : Int) (n : Nat) (h : n ≤ 64) (hx : 0 ≤ x) : shrK .u64 x (n : Int) = x / 2 ^ n := by
  unfold shrK
  rw [show min ((n : Int)).toNat IntKind.u64.bits = n by simp [IntKind.bits]; omega]
  exact Int.fdiv_eq_ediv_of_nonneg _ (by exact_mod_cast Nat.zero_le _)
theorem be8_inj {a b : Int} (ha : 0 ≤ a ∧ a < 18446744073709551616) (hb : 0 ≤ b ∧ b < 18446744073709551616) (h : be8 a = be8 b) : a = b := by
  have s : ∀ (x : Int) (n : Nat), n ≤ 64 → 0 ≤ x → shrK .u64 x (n : Int) = x / 2 ^ n := shr64
  have e56 : shrK .u64 a 56 = a / 2 ^ 56 := s a 56 (by omega) ha.1; have f56 : shrK .u64 b 56 = b / 2 ^ 56 := s b 56 (by omega) hb.1
  have e48 : shrK .u64 a 48 = a / 2 ^ 48 := s a 48 (by omega) ha.1; have f48 : shrK .u64 b 48 = b / 2 ^ 48 := s b 48 (by omega) hb.1
  have e40 : shrK .u64 a 40 = a / 2 ^ 40 := s a 40 (by omega) ha.1; have f40 : shrK .u64 b 40 = b / 2 ^ 40 := s b 40 (by omega) hb.1
  have e32 : shrK .u64 a 32 = a / 2 ^ 32 := s a 32 (by omega) ha.1; have f32 : shrK .u64 b 32 = b / 2 ^ 32 := s b 32 (by omega) hb.1
  have e24 : shrK .u64 a 24 = a / 2 ^ 24 := s a 24 (by omega) ha.1; have f24 : shrK .u64 b 24 = b / 2 ^ 24 := s b 24 (by omega) hb.1
  have e16 : shrK .u64 a 16 = a / 2 ^ 16 := s a 16 (by omega) ha.1; have f16 : shrK .u64 b 16 = b / 2 ^ 16 := s b 16 (by omega) hb.1
  have e8 : shrK .u64 a 8 = a / 2 ^ 8 := s a 8 (by omega) ha.1; have f8 : shrK .u64 b 8 = b / 2 ^ 8 := s b 8 (by omega) hb.1
  have e0 : shrK .u64 a 0 = a / 2 ^ 0 := s a 0 (by omega) ha.1; have f0 : shrK .u64 b 0 = b / 2 ^ 0 := s b 0 (by omega) hb.1
  simp only [be8, List.cons.injEq, and_true, wrap_u8] at h
  obtain ⟨h7, h6, h5, h4, h3, h2, h1, h0⟩ := h
  rw [e56, f56] at h7; rw [e48, f48] at h6; rw [e40, f40] at h5; rw [e32, f32] at h4; rw [e24, f24] at h3; rw [e16, f16] at h2; rw [e8, f8] at h1; rw [e0, f0] at h0
  omega

/-! ## Two lists, number by number -/
theorem list_ext_getD {a b : List Int} (hl : a.length = b.length) (h : ∀ i, i < a.length → a.getD i 0 = b.getD i 0) : a = b := by
  apply List.ext_getElem hl
  intro i h1 h2
  have := h i h1
  rwa [getD_eq a 0 h1, getD_eq b 0 h2] at this

theorem SameBytes_ev (a b : List Int) (ha : Short a) : Ev (fun k => grapevinelaw0_SameBytes k a b) (decide (a = b)) := by
  have hs := short_lt ha
  unfold grapevinelaw0_SameBytes
  refine Ev.ite (fun h => ?_) (fun h => ?_)
  · have : a ≠ b := fun e => h (by rw [e])
    exact (Ev.now _).is (by simp [this])
  · have hl : a.length = b.length := by omega
    obtain ⟨r, hr, hE⟩ := Ev.loop (F := fun k (s : Int) => grapevinelaw0_SameBytes_l0 a b k s) (fun s n => 0 ≤ s ∧ s + n = a.length ∧ ∀ i, i < s.toNat → a.getD i 0 = b.getD i 0) (fun r => r = if a = b then Sum.inr () else Sum.inl false) (fun s n hI => by
      obtain ⟨h0, hn, hall⟩ := hI
      by_cases h1 : s < (a.length : Int)
      · by_cases h2 : a.getD s.toNat 0 = b.getD s.toNat 0
        · refine .inr ⟨s + 1, n - 1, by omega, ⟨by omega, by omega, fun i hi => ?_⟩, fun r H => ?_⟩
          · by_cases e : i = s.toNat
            · rw [e]; exact h2
            · exact hall i (by omega)
          · refine Ev.step (fun k => by rw [grapevinelaw0_SameBytes_l0]) ?_
            refine Ev.pos h1 (Ev.pos (by omega) (Ev.pos (by omega) (Ev.neg (fun h => h h2) ?_)))
            rw [i64w (by omega)]
            exact H
        · refine .inl ⟨Sum.inl false, ?_, ?_⟩
          · rw [if_neg (fun e => h2 (by rw [e]))]
          · refine Ev.step (fun k => by rw [grapevinelaw0_SameBytes_l0]) ?_
            exact Ev.pos h1 (Ev.pos (by omega) (Ev.pos (by omega) (Ev.pos h2 (Ev.now _))))
      · refine .inl ⟨Sum.inr (), ?_, ?_⟩
        · rw [if_pos (list_ext_getD hl (fun i hi => hall i (by omega)))]
        · refine Ev.step (fun k => by rw [grapevinelaw0_SameBytes_l0]) ?_
          exact Ev.neg h1 (Ev.now _)) 0 a.length ⟨by omega, by omega, fun i hi => absurd hi (by simp)⟩
    refine Ev.bind hE ?_
    rw [hr]
    by_cases e : a = b
    · rw [if_pos e]; exact (Ev.now _).is (by simp [e])
    · rw [if_neg e]; exact (Ev.now _).is (by simp [e])

theorem KeptBytes_ev (a b : List Int) (ha : a.length ≤ 1073741824) : Ev (fun k => grapevinelaw0_KeptBytes k a b) (decide (a = b)) := by
  have e : IntKind.i64.wrap ((a.length : Int) + 3) = (a.length : Int) + 3 := i64w (by omega)
  have em : ((a ++ ([119, 119, 119] : List Int)).take ((a.length : Int) + 3).toNat).drop (a.length : Int).toNat = [119, 119, 119] := by
    rw [show ((a.length : Int) + 3).toNat = a.length + 3 by omega, List.take_of_length_le (by simp)]
    simp
  unfold grapevinelaw0_KeptBytes
  rw [e]
  refine Ev.pos ⟨by omega, by omega, by simp⟩ ?_
  simp only [em]
  refine Ev.name fun v hv => ?_
  subst hv
  have key : ∀ (i : Nat), i ≤ 3 → Ev (fun k => grapevinelaw0_KeptBytes_l0 [119, 119, 119] k ((3 - i : Nat) : Int)) (Sum.inr ()) := by
    intro i
    induction i with
    | zero =>
      intro _
      refine Ev.step (fun k => by rw [grapevinelaw0_KeptBytes_l0]) ?_
      exact Ev.neg (by omega) (Ev.now _)
    | succ i ih =>
      intro hi
      have ih := ih (by omega)
      refine Ev.step (fun k => by rw [grapevinelaw0_KeptBytes_l0]) ?_
      refine Ev.pos (by omega) (Ev.pos (by simp; omega) (Ev.neg ?_ ?_))
      · have : i = 0 ∨ i = 1 ∨ i = 2 := by omega
        rcases this with rfl | rfl | rfl <;> simp
      · rw [i64w (by omega), show (((3 - (i + 1) : Nat) : Int) + 1) = ((3 - i : Nat) : Int) by omega]
        exact ih
  refine Ev.bind (key 3 (by omega)) ?_
  exact Ev.bind (SameBytes_ev a b (by simp [Short, maxLen]; omega)) (Ev.now _)

theorem OverBytes_ev (a : List Int) (ha : a.length < 1073741824) : Ev (fun k => grapevinelaw0_OverBytes k a) () := by
  unfold grapevinelaw0_OverBytes
  obtain ⟨r, hr, hE⟩ := Ev.loop (F := fun k (s : Int × List Int) => grapevinelaw0_OverBytes_l0 k s.1 s.2) (fun s n => 0 ≤ s.1 ∧ s.1 + n = a.length ∧ s.2.length = a.length) (fun r => r.length = a.length) (fun s n hI => by
    obtain ⟨h0, hn, hl⟩ := hI
    by_cases h1 : s.1 < (s.2.length : Int)
    · refine .inr ⟨(s.1 + 1, s.2.set s.1.toNat 238), n - 1, by omega, ⟨by simp; omega, by simp; omega, by simpa using hl⟩, fun r H => ?_⟩
      refine Ev.step (fun k => by rw [grapevinelaw0_OverBytes_l0]) ?_
      refine Ev.pos h1 (Ev.pos (by omega) ?_)
      rw [i64w (by omega)]
      exact H
    · refine .inl ⟨s.2, hl, ?_⟩
      refine Ev.step (fun k => by rw [grapevinelaw0_OverBytes_l0]) ?_
      exact Ev.neg h1 (Ev.now _)) (0, a) a.length ⟨by simp, by simp, rfl⟩
  refine Ev.bind hE ?_
  exact Ev.pos (by simp; omega) (Ev.now _)

theorem clone_some (l : List Int) (h : l.length ≤ 1073741824) : slices_Clone_byte_byte l = some l := if_pos h

theorem strOfNums_inj {a b : List Int} (ha : Bytes a) (hb : Bytes b) : ((strOfNums a).toList == (strOfNums b).toList) = decide (a = b) := by
  by_cases e : a = b
  · subst e; simp
  · have : ¬ (strOfNums a).toList = (strOfNums b).toList := by
      intro h
      apply e
      have h' : (a.map fun n => UInt8.ofNat n.toNat) = (b.map fun n => UInt8.ofNat n.toNat) := by
        have h1 : ∀ l : List Int, (strOfNums l).toList = l.map fun n => UInt8.ofNat n.toNat := fun l => by
          rw [ByteArray.toList_eq]; simp [strOfNums]
        rwa [h1, h1] at h
      have hl : a.length = b.length := by simpa using congrArg List.length h'
      apply List.ext_getElem hl
      intro i h1 h2
      have := congrArg (fun l => l[i]?) h'
      simp only [List.getElem?_map, List.getElem?_eq_getElem h1, List.getElem?_eq_getElem h2, Option.map_some, Option.some.injEq] at this
      have := congrArg UInt8.toNat this
      simp only [UInt8.toNat_ofNat'] at this
      have p := ha _ (List.getElem_mem h1)
      have q := hb _ (List.getElem_mem h2)
      omega
    simp [e, this]
end Go.Proofs.Ytanogihdhnhpaaa.Pure
