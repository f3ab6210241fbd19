/- Bags in plain words. -/
import Derived.Test.YtmphcmgbognmnaaF0
import Derived.Test.YtmphcmgbognmnaaGgQ
import Derived.Laws.Strings
namespace Go.Proofs.Ytmphcmgbognmnaa.Pure
open Go Go.Gg Go.Gp Gf
set_option linter.unusedVariables false
set_option linter.unusedSimpArgs false
theorem xor8 {a b : Int} (ha : 0 ≤ a ∧ a < 256) (hb : 0 ≤ b ∧ b < 256) : (0 ≤ Go.bits .xor .u8 a b ∧ Go.bits .xor .u8 a b < 256) ∧ (Go.bits .xor .u8 a b = a → b = 0) := by
  obtain ⟨a, rfl⟩ := Int.eq_ofNat_of_zero_le ha.1
  obtain ⟨b, rfl⟩ := Int.eq_ofNat_of_zero_le hb.1
  rw [show Go.bits .xor .u8 (a : Int) (b : Int) = IntKind.u8.wrap ((BitVec.ofInt 8 a ^^^ BitVec.ofInt 8 b).toNat : Int) from rfl]
  rw [wrap_u8]
  have l := (BitVec.ofInt 8 (a : Int) ^^^ BitVec.ofInt 8 (b : Int)).isLt
  refine ⟨by omega, fun h => ?_⟩
  have e : (BitVec.ofInt 8 (a : Int) ^^^ BitVec.ofInt 8 (b : Int)) = BitVec.ofInt 8 (a : Int) := by
    apply BitVec.eq_of_toNat_eq
    rw [BitVec.toNat_ofInt]
    omega
  have e := congrArg (BitVec.ofInt 8 (a : Int) ^^^ ·) e
  simp only [← BitVec.xor_assoc, BitVec.xor_self, BitVec.zero_xor] at e
  have e := congrArg BitVec.toNat e
  rw [BitVec.toNat_ofInt] at e
  simp at e
  omega
theorem getD_set_ne' (l : List Int) {i j : Nat} (x : Int) (h : i ≠ j) : (l.set i x).getD j 0 = l.getD j 0 := by
  simp [List.getD_eq_getElem?_getD, h]
theorem getD_set_eq' (l : List Int) {i : Nat} (x : Int) (h : i < l.length) : (l.set i x).getD i 0 = x := by
  simp [List.getD_eq_getElem?_getD, h]
theorem SameBytes_ev (a b : List Int) (ha : a.length < 4294967296) : Ev (fun k => grapevinelaw0_SameBytes k a b) (decide (a = b)) := by
  have hs := ha
  unfold grapevinelaw0_SameBytes
  refine Ev.ite (fun h => ?_) (fun h => ?_)
  · have : a ≠ b := fun e => h (by rw [e])
    exact (Ev.now _).is (by simp [this])
  · have hl : a.length = b.length := by omega
    obtain ⟨r, hr, hE⟩ := Ev.loop (F := fun k (s : Int) => grapevinelaw0_SameBytes_l0 a b k s) (fun s n => 0 ≤ s ∧ s + n = a.length ∧ ∀ i, i < s.toNat → a.getD i 0 = b.getD i 0) (fun r => r = if a = b then Sum.inr () else Sum.inl false) (fun s n hI => by
      obtain ⟨h0, hn, hall⟩ := hI
      by_cases h1 : s < (a.length : Int)
      · by_cases h2 : a.getD s.toNat 0 = b.getD s.toNat 0
        · refine .inr ⟨s + 1, n - 1, by omega, ⟨by omega, by omega, fun i hi => ?_⟩, fun r H => ?_⟩
          · by_cases e : i = s.toNat
            · rw [e]; exact h2
            · exact hall i (by omega)
          · refine Ev.step (fun k => by rw [grapevinelaw0_SameBytes_l0]) ?_
            refine Ev.pos h1 (Ev.pos (by omega) (Ev.pos (by omega) (Ev.neg (fun h => h h2) ?_)))
            rw [i64w (by omega)]
            exact H
        · refine .inl ⟨Sum.inl false, ?_, ?_⟩
          · rw [if_neg (fun e => h2 (by rw [e]))]
          · refine Ev.step (fun k => by rw [grapevinelaw0_SameBytes_l0]) ?_
            exact Ev.pos h1 (Ev.pos (by omega) (Ev.pos (by omega) (Ev.pos h2 (Ev.now _))))
      · refine .inl ⟨Sum.inr (), ?_, ?_⟩
        · rw [if_pos (list_ext_getD hl (fun i hi => hall i (by omega)))]
        · refine Ev.step (fun k => by rw [grapevinelaw0_SameBytes_l0]) ?_
          exact Ev.neg h1 (Ev.now _)) 0 a.length ⟨by omega, by omega, fun i hi => absurd hi (by simp)⟩
    refine Ev.bind hE ?_
    rw [hr]
    by_cases e : a = b
    · rw [if_pos e]; exact (Ev.now _).is (by simp [e])
    · rw [if_neg e]; exact (Ev.now _).is (by simp [e])
theorem low_some {a b : Int} (hb : 0 < b ∧ b < 4294967296) : ∃ r, grapevinelaw0_Low a b = some r ∧ 0 ≤ r ∧ r < b := by
  unfold grapevinelaw0_Low
  have e1 : IntKind.u64.wrap b = b := u64w (by omega)
  have h0 : 0 ≤ IntKind.u64.wrap a ∧ IntKind.u64.wrap a < 18446744073709551616 := by rw [IntKind.wrap_u64]; omega
  rw [e1, if_pos (by omega)]
  have h1 : 0 ≤ Int.tmod (IntKind.u64.wrap a) b := Int.tmod_nonneg _ h0.1
  have h2 : Int.tmod (IntKind.u64.wrap a) b < b := Int.tmod_lt_of_pos _ hb.1
  exact ⟨_, rfl, by rw [i64w (by omega)]; exact ⟨h1, h2⟩⟩
theorem Len_some (b : T89) : bag_Bag_Len b = some (b.f1.length : Int) := rfl
theorem at_none {b : T89} (h : b.f1 = []) (i : Int) : bag_Bag_at b i = some (-1) := by
  unfold bag_Bag_at
  simp [Len_some, h]
theorem at_some {b : T89} (h : 0 < b.f1.length) (h2 : b.f1.length < 4294967296) (i : Int) : bag_Bag_at b i = some (Int.tmod (IntKind.u64.wrap i) (b.f1.length : Int)) ∧ 0 ≤ Int.tmod (IntKind.u64.wrap i) (b.f1.length : Int) ∧ Int.tmod (IntKind.u64.wrap i) (b.f1.length : Int) < (b.f1.length : Int) := by
  unfold bag_Bag_at
  have e1 : IntKind.u64.wrap (b.f1.length : Int) = (b.f1.length : Int) := u64w (by omega)
  have h0 : 0 ≤ IntKind.u64.wrap i := by rw [IntKind.wrap_u64]; omega
  have h3 : 0 ≤ Int.tmod (IntKind.u64.wrap i) (b.f1.length : Int) := Int.tmod_nonneg _ h0
  have h4 : Int.tmod (IntKind.u64.wrap i) (b.f1.length : Int) < (b.f1.length : Int) := Int.tmod_lt_of_pos _ (by omega)
  simp only [Len_some, Option.bind_some, e1]
  rw [if_neg (by omega), if_pos (by omega), i64w (by omega)]
  exact ⟨rfl, h3, h4⟩
theorem at_id {b : T89} {i : Nat} (h : i < b.f1.length) (h2 : b.f1.length < 4294967296) : bag_Bag_at b (i : Int) = some (i : Int) := by
  obtain ⟨h1, _⟩ := at_some (b := b) (by omega) h2 (i : Int)
  rw [h1, u64w (by omega), Int.tmod_eq_emod_of_nonneg (by omega), Int.emod_eq_of_lt (by omega) (by omega)]
theorem Take_none {b : T89} (h : b.f1 = []) (i : Int) : bag_Bag_Take b i = some (0, [], false, b) := by
  unfold bag_Bag_Take
  rw [at_none h]; rfl
theorem Take_some {b : T89} {i : Nat} (h : i < b.f1.length) (h2 : b.f1.length < 1073741824) : bag_Bag_Take b (i : Int) = some ((b.f1.getD i z94).f0, (b.f1.getD i z94).f1, true, ⟨b.f0, b.f1.eraseIdx i⟩) := by
  unfold bag_Bag_Take
  rw [at_id h (by omega), Option.bind_some, if_neg (by omega), if_pos (by omega), if_pos (by omega), Int.toNat_natCast]
theorem Drop_none {b : T89} (h : b.f1 = []) (i : Int) : bag_Bag_Drop b i = some (false, b) := by
  unfold bag_Bag_Drop
  rw [Take_none h]; rfl
theorem Drop_some {b : T89} {i : Nat} (h : i < b.f1.length) (h2 : b.f1.length < 1073741824) : bag_Bag_Drop b (i : Int) = some (true, ⟨b.f0, b.f1.eraseIdx i⟩) := by
  unfold bag_Bag_Drop
  rw [Take_some h h2]; rfl
theorem Put_full {b : T89} (h : (b.f1.length : Int) ≥ b.f0) (t : Int) (l : List Int) : bag_Bag_Put b t l = some (10, b) := by
  unfold bag_Bag_Put bag_Bag_add
  rw [if_pos h]; rfl
theorem Put_some {b : T89} (h : (b.f1.length : Int) < b.f0) (h2 : b.f1.length < 1000000) (t : Int) {l : List Int} (hl : l.length ≤ 1000000) : bag_Bag_Put b t l = some (0, ⟨b.f0, b.f1 ++ [⟨t, l, false⟩]⟩) := by
  unfold bag_Bag_Put bag_Bag_add slices_Clone_byte_byte
  rw [if_neg (by omega), if_pos (by dsimp only; omega), Option.bind_some, if_pos (by simp; omega)]; rfl
theorem Twice_none {b : T89} (h : b.f1 = []) (i : Int) : bag_Bag_Twice_25 b i = some (13, b) := by
  unfold bag_Bag_Twice_25
  rw [at_none h]; rfl
theorem Twice_some {b : T89} {i : Nat} (hi : i < b.f1.length) (h : (b.f1.length : Int) < b.f0) (h2 : b.f1.length < 1000000) (hl : (b.f1.getD i z94).f1.length ≤ 1000000) : bag_Bag_Twice_25 b (i : Int) = some (0, ⟨b.f0, b.f1 ++ [b.f1.getD i z94]⟩) := by
  unfold bag_Bag_Twice_25 bag_Bag_add_26 slices_Clone_byte_byte
  rw [at_id hi (by omega), Option.bind_some, if_neg (by omega), if_pos (by omega), Int.toNat_natCast, if_neg (by omega), if_pos (by omega), Option.bind_some, if_pos (by simp; omega)]; rfl
theorem Spoil_old {b : T89} {i : Nat} (hi : i < b.f1.length) (h2 : b.f1.length < 1000000) (hs : (b.f1.getD i z94).f2 = true) (p q : Int) : bag_Bag_Spoil b (i : Int) p q = some (false, b) := by
  unfold bag_Bag_Spoil
  rw [at_id hi (by omega), Option.bind_some, if_neg (by omega), if_pos (by omega), Int.toNat_natCast, if_pos hs]; rfl
/-- which byte is spoilt, and by what -/
def spAt (l : List Int) (p : Int) : Nat := (Int.tmod (IntKind.u64.wrap p) (l.length : Int)).toNat
def spBy (q : Int) : Int := 1 + Int.tmod (IntKind.u64.wrap q) 255
def sp (l : List Int) (p q : Int) : List Int := l.set (spAt l p) (Go.bits .xor .u8 (l.getD (spAt l p) 0) (spBy q))
theorem spAt_lt {l : List Int} (h : 0 < l.length) (p : Int) : spAt l p < l.length := by
  have h0 : 0 ≤ IntKind.u64.wrap p := by rw [IntKind.wrap_u64]; omega
  have h3 : 0 ≤ Int.tmod (IntKind.u64.wrap p) (l.length : Int) := Int.tmod_nonneg _ h0
  have h4 : Int.tmod (IntKind.u64.wrap p) (l.length : Int) < (l.length : Int) := Int.tmod_lt_of_pos _ (by omega)
  unfold spAt; omega
theorem spBy_range (q : Int) : 1 ≤ spBy q ∧ spBy q < 256 := by
  have h0 : 0 ≤ IntKind.u64.wrap q := by rw [IntKind.wrap_u64]; omega
  have h3 : 0 ≤ Int.tmod (IntKind.u64.wrap q) 255 := Int.tmod_nonneg _ h0
  have h4 : Int.tmod (IntKind.u64.wrap q) 255 < 255 := Int.tmod_lt_of_pos _ (by omega)
  unfold spBy; omega
theorem Spoil_some {b : T89} {i : Nat} (hi : i < b.f1.length) (h2 : b.f1.length < 1000000) (hs : (b.f1.getD i z94).f2 = false) (hl : 0 < (b.f1.getD i z94).f1.length) (hl2 : (b.f1.getD i z94).f1.length < 1000000) (p q : Int) :
    bag_Bag_Spoil b (i : Int) p q = some (true, ⟨b.f0, b.f1.set i ⟨(b.f1.getD i z94).f0, sp (b.f1.getD i z94).f1 p q, true⟩⟩) := by
  unfold bag_Bag_Spoil
  rw [at_id hi (by omega), Option.bind_some, if_neg (by omega), if_pos (by omega), Int.toNat_natCast]
  have hr := spBy_range q
  generalize hx : b.f1.getD i z94 = x at hs hl hl2 ⊢
  have hp := spAt_lt hl p
  have e1 : IntKind.u64.wrap (x.f1.length : Int) = (x.f1.length : Int) := u64w (by omega)
  have hpp : Int.tmod (IntKind.u64.wrap p) (x.f1.length : Int) = (spAt x.f1 p : Int) := by
    have h0 : 0 ≤ IntKind.u64.wrap p := by rw [IntKind.wrap_u64]; omega
    have h3 : 0 ≤ Int.tmod (IntKind.u64.wrap p) (x.f1.length : Int) := Int.tmod_nonneg _ h0
    unfold spAt; omega
  have e2 : IntKind.u8.wrap (IntKind.u64.wrap (1 + Int.tmod (IntKind.u64.wrap q) 255)) = spBy q := by
    show IntKind.u8.wrap (IntKind.u64.wrap (spBy q)) = spBy q
    rw [u64w (by omega), u8w (by omega)]
  have e3 : ((x.f1.length : Int) == 0) = false := by simp; intro h; rw [h] at hl; simp at hl
  simp only [e1, hpp, e2, hs, e3, Bool.false_eq_true, if_false, Option.bind_some, Int.toNat_natCast]
  rw [if_pos (by omega), if_pos (by omega), if_pos (by omega)]
  rfl
theorem New_some {m : Int} (h : 0 ≤ m ∧ m ≤ 24) : bag_New m = some (some ⟨m, []⟩) := by
  unfold bag_New
  rw [if_neg (by omega), decide_eq_false (by omega)]; rfl
theorem awake22_ev : Ev (fun k => grapevinelaw22_awake k) true := by
  unfold grapevinelaw22_awake
  have h1 : bag_New 1 = some (some ⟨1, []⟩) := by decide +kernel
  have h2 : bag_Bag_Put ⟨1, []⟩ 2 [7] = some (0, ⟨1, [⟨2, [7], false⟩]⟩) := by decide +kernel
  have h3 : bag_Bag_Put ⟨1, [⟨2, [7], false⟩]⟩ 3 [] = some (10, ⟨1, [⟨2, [7], false⟩]⟩) := by decide +kernel
  have h4 : bag_Bag_Spoil ⟨1, [⟨2, [7], false⟩]⟩ 0 0 0 = some (true, ⟨1, [⟨2, [6], true⟩]⟩) := by decide +kernel
  have h5 : bag_Bag_Take ⟨1, [⟨2, [6], true⟩]⟩ 5 = some (2, [6], true, ⟨1, []⟩) := by decide +kernel
  have h6 : bag_New (-1) = some none := by decide +kernel
  have h7 : bag_Bag_Len ⟨1, []⟩ = some 0 := rfl
  simp only [h1, h2, h3, h4, h5, h6, h7, Option.bind_some, Option.elim_some, Option.elim_none]
  refine Ev.bind (b := true) (Ev.pos (by simp) (Ev.pos (by simp) (Ev.pos (by simp) (Ev.pos (by simp) (Ev.bind ((SameBytes_ev [6] [6] (by simp)).is (decide_eq_true rfl)) (Ev.pos rfl (Ev.pos (by simp) (Ev.pos (by simp) (Ev.now _))))))))) (Ev.now _)
end Go.Proofs.Ytmphcmgbognmnaa.Pure
