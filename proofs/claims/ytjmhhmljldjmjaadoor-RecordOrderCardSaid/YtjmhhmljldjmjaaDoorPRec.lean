/- Records in plain words: which may be, their bytes, and how they are read. -/
import Derived.Test.YtjmhhmljldjmjaaDoorF0
import Derived.Test.YtjmhhmljldjmjaaDoorF1
import Derived.Test.YtjmhhmljldjmjaaDoorF4
import Derived.Test.YtjmhhmljldjmjaaDoorPBytes
namespace Go.Proofs.YtjmhhmljldjmjaaDoor.Pure
open Go Go.Gg Go.Gp Gf
set_option linter.unusedVariables false
set_option linter.unusedSimpArgs false

def Text (s : ByteArray) : Prop := s.size ≤ 120 ∧ Lib.validD s.data.toList = true
instance (s : ByteArray) : Decidable (Text s) := by unfold Text; infer_instance
def Mayr (r : T27) : Prop := (0 ≤ r.f0 ∧ r.f0 < 8 ∧ 1 ≤ r.f1 ∧ r.f1 ≤ 1023) ∧ (0 ≤ r.f2 ∧ r.f2 ≤ 1099511627776 ∧ 0 ≤ r.f3 ∧ r.f3 ≤ 65535) ∧ Text r.f4
instance (r : T27) : Decidable (Mayr r) := by unfold Mayr; infer_instance
theorem stamp_some (s : T25) : stamp_May s = some (decide (0 ≤ s.f0 ∧ s.f0 ≤ 1099511627776 ∧ 0 ≤ s.f1 ∧ s.f1 ≤ 65535)) := by
  unfold stamp_May stamp_wall
  by_cases h : 0 ≤ s.f0 <;> by_cases h1 : s.f0 ≤ 1099511627776 <;> by_cases h2 : 0 ≤ s.f1 <;> simp [h, h1, h2]
theorem text_some (s : ByteArray) : tokens_May s = some (decide (Text s)) := by
  unfold tokens_May utf8_ValidString Text
  by_cases h : s.size ≤ 120
  · have h' : (s.size : Int) ≤ 120 := by omega
    rw [if_pos h', if_pos (by omega)]
    simp [h]
  · have h' : ¬ (s.size : Int) ≤ 120 := by omega
    rw [if_neg h']; simp [h]
theorem May_some (r : T27) : record_May r = some (decide (Mayr r)) := by
  unfold record_May Mayr
  simp only [stamp_some, text_some, Option.bind_some]
  by_cases h : 0 ≤ r.f0 <;> by_cases h1 : r.f0 < 8 <;> by_cases h2 : 1 ≤ r.f1 <;> by_cases h3 : r.f1 ≤ 1023 <;> by_cases h4 : 0 ≤ r.f2 ∧ r.f2 ≤ 1099511627776 ∧ 0 ≤ r.f3 ∧ r.f3 ≤ 65535 <;> simp [h, h1, h2, h3, h4]
theorem rstamp_some (s : T25) : grapevineref2_May s = some (decide (0 ≤ s.f0 ∧ s.f0 ≤ 1099511627776 ∧ 0 ≤ s.f1 ∧ s.f1 ≤ 65535)) := by
  unfold grapevineref2_May grapevineref2_in
  by_cases h : 0 ≤ s.f0 <;> by_cases h1 : s.f0 ≤ 1099511627776 <;> by_cases h2 : 0 ≤ s.f1 <;> simp [h, h1, h2]
theorem rtext_some (s : ByteArray) : grapevineref1_May s = some (decide (Text s)) := text_some s
theorem rMay_some (r : T27) : grapevineref4_May r = some (decide (Mayr r)) := by
  unfold grapevineref4_May Mayr grapevineref4_MayKey
  simp only [rstamp_some, rtext_some, Option.bind_some]
  by_cases h : 0 ≤ r.f0 <;> by_cases h1 : r.f0 < 8 <;> by_cases h2 : 1 ≤ r.f1 <;> by_cases h3 : r.f1 ≤ 1023 <;> by_cases h4 : 0 ≤ r.f2 ∧ r.f2 ≤ 1099511627776 ∧ 0 ≤ r.f3 ∧ r.f3 ≤ 65535 <;> simp [h, h1, h2, h3, h4]

/-! ## A record's bytes -/
theorem put_ev (n : Nat) : ∀ (s : Nat) (l : List Int), s ≤ 8 → l.length + s ≤ 1073741824 → Ev (fun k => record_put_l0 (n : Int) k l (s : Int)) (l ++ be n s)
  | 0, l, _, _ => Ev.step (g := fun _ => some l) (fun k => by rw [record_put_l0, if_neg (by omega)]) ((Ev.now _).is (by simp [be]))
  | s + 1, l, h, hl => by
    refine Ev.step (fun k => ?_) ((put_ev n s (l ++ [((n / 256 ^ s % 256 : Nat) : Int)]) (by omega) (by simp; omega)).is (by simp [be]))
    have e1 : IntKind.i64.wrap (((s + 1 : Nat) : Int) - 1) = (s : Int) := by rw [i64w (by omega)]; omega
    have e2 : IntKind.i64.wrap (8 * (s : Int)) = ((8 * s : Nat) : Int) := by rw [i64w (by omega)]; omega
    rw [record_put_l0, e1, e2, shr_i64 n s (by omega), byte_of, if_pos (by omega), if_pos (by omega), if_pos (by simp; omega)]
theorem rput_ev (n : Nat) : ∀ (s : Nat) (l : List Int), s ≤ 8 → l.length + s ≤ 1073741824 → Ev (fun k => grapevineref4_Num_l0 (n : Int) k l ((s : Int) - 1)) (l ++ be n s)
  | 0, l, _, _ => Ev.step (g := fun _ => some l) (fun k => by rw [grapevineref4_Num_l0, if_neg (by omega)]) ((Ev.now _).is (by simp [be]))
  | s + 1, l, h, hl => by
    refine Ev.step (fun k => ?_) ((rput_ev n s (l ++ [((n / 256 ^ s % 256 : Nat) : Int)]) (by omega) (by simp; omega)).is (by simp [be]))
    have e1 : (((s + 1 : Nat) : Int) - 1) = (s : Int) := by omega
    have e2 : IntKind.i64.wrap (8 * (s : Int)) = ((8 * s : Nat) : Int) := by rw [i64w (by omega)]; omega
    have e3 : IntKind.i64.wrap ((s : Int) - 1) = (s : Int) - 1 := i64w (by omega)
    rw [grapevineref4_Num_l0, e1, e2, e3, shr_i64 n s (by omega), byte_of, if_pos (by omega), if_pos (by omega), if_pos (by simp; omega)]
theorem Put_ev {x : Int} (hx : 0 ≤ x) (s : Nat) (l : List Int) (h : s ≤ 8) (hl : l.length + s ≤ 1073741824) : Ev (fun k => record_put k l x (s : Int)) (l ++ be x.toNat s) := by
  obtain ⟨n, rfl⟩ : ∃ n : Nat, x = n := ⟨x.toNat, by omega⟩
  exact Ev.bind (put_ev n s l h hl) (Ev.now _)
theorem rPut_ev {x : Int} (hx : 0 ≤ x) (s : Nat) (l : List Int) (h : s ≤ 8) (hl : l.length + s ≤ 1073741824) : Ev (fun k => grapevineref4_Num k l x (s : Int)) (l ++ be x.toNat s) := by
  obtain ⟨n, rfl⟩ : ∃ n : Nat, x = n := ⟨x.toNat, by omega⟩
  unfold grapevineref4_Num
  rw [i64w (by omega)]
  exact Ev.bind (rput_ev n s l h hl) (Ev.now _)
def head (r : T27) : List Int := be r.f0.toNat 1 ++ be r.f1.toNat 2 ++ be r.f2.toNat 6 ++ be r.f3.toNat 2 ++ be r.f4.size 1
def lay (r : T27) : List Int := head r ++ bytesOf r.f4
theorem len_head (r : T27) : (head r).length = 12 := by simp [head, len_be]
theorem len_lay (r : T27) : (lay r).length = 12 + r.f4.size := by simp [lay, len_head, len_bytesOf]
theorem lay_bytes (r : T27) : Bytes (lay r) :=
  (((((be_bytes _ _).app (be_bytes _ _)).app (be_bytes _ _)).app (be_bytes _ _)).app (be_bytes _ _)).app (bytesOf_bytes _)
def laid (r : T27) : List Int × Int := if Mayr r then (lay r, 0) else ([], 2)
theorem Lay_ev (r : T27) : Ev (fun k => record_Lay k r) (laid r) := by
  unfold record_Lay laid
  simp only [May_some, Option.bind_some]
  by_cases h : Mayr r
  · simp only [h, decide_true, Bool.not_true, Bool.false_eq_true, if_false, if_true]
    obtain ⟨⟨a0, _, a1, _⟩, ⟨a2, _, a3, _⟩, a4, _⟩ := h
    refine Ev.bind (Put_ev a0 1 [] (by omega) (by simp)) (Ev.bind (Put_ev (by omega) 2 _ (by omega) (by simp [len_be])) (Ev.bind (Put_ev a2 6 _ (by omega) (by simp [len_be])) (Ev.bind (Put_ev a3 2 _ (by omega) (by simp [len_be])) (Ev.bind (Put_ev (by omega) 1 _ (by omega) (by simp [len_be])) (Ev.pos ?_ ((Ev.now _).is ?_))))))
    · simp [len_be, len_bytesOf]; omega
    · simp [lay, head]
  · simp only [h, decide_false, Bool.not_false, if_true, if_false]
    exact Ev.now _
theorem rLay_ev (r : T27) : Ev (fun k => grapevineref4_Lay k r) (laid r) := by
  unfold grapevineref4_Lay laid
  simp only [rMay_some, Option.bind_some]
  by_cases h : Mayr r
  · simp only [h, decide_true, Bool.not_true, Bool.false_eq_true, if_false, if_true]
    obtain ⟨⟨a0, _, a1, _⟩, ⟨a2, _, a3, _⟩, a4, _⟩ := h
    refine Ev.bind (rPut_ev a0 1 [] (by omega) (by simp)) (Ev.bind (rPut_ev (by omega) 2 _ (by omega) (by simp [len_be])) (Ev.bind (rPut_ev a2 6 _ (by omega) (by simp [len_be])) (Ev.bind (rPut_ev a3 2 _ (by omega) (by simp [len_be])) (Ev.bind (rPut_ev (by omega) 1 _ (by omega) (by simp [len_be])) (Ev.pos ?_ ((Ev.now _).is ?_))))))
    · simp [len_be, len_bytesOf]; omega
    · simp [lay, head]
  · simp only [h, decide_false, Bool.not_false, if_true, if_false]
    exact Ev.now _

/-! ## Reading -/
theorem number_ev {l : List Int} (hb : Bytes l) (hl : l.length ≤ 6) : Ev (fun k => record_number k l) (num l) := by
  refine Ev.bind (b := num l) ?_ (Ev.now _)
  have := Ev.count (F := fun k s i => record_number_l0 l k s i) (r := num l) (fun i => num (l.take i)) l.length (fun i hi r H => by
    have h1 := num_bound hb i (by omega)
    have h2 := hb.get i
    have h3 : 256 ^ i ≤ 256 ^ 5 := Nat.pow_le_pow_right (by omega) (by omega)
    have h3 : 256 ^ i ≤ 1099511627776 := h3
    refine Ev.step (fun k => ?_) H
    rw [record_number_l0, if_pos (by omega), if_pos (by omega), Int.toNat_natCast, byte_id h2, i64w (x := 256 * _) (by omega), i64w (x := 256 * _ + _) (by omega), step64 i (by omega), num_take l hi]) (by
    refine Ev.step (g := fun _ => some (num l)) (fun k => ?_) (Ev.now _)
    rw [record_number_l0, if_neg (by omega), List.take_of_length_le (Nat.le_refl _)])
  simpa [num, numF] using this
def recOf (x : List Int) (n : Nat) : T27 := ⟨x.getD 0 0, num ((x.take 3).drop 1), num ((x.take 9).drop 3), num ((x.take 11).drop 9), strOfNums ((x.take (12 + n)).drop 12)⟩
def none27 : T27 × Int × Bool := (⟨0, 0, 0, 0, ⟨#[]⟩⟩, 0, false)
def rdx (x : List Int) (a : Int) : T27 × Int × Bool :=
  if 12 ≤ x.length ∧ 12 + (x.getD 11 0).toNat ≤ x.length ∧ Mayr (recOf x (x.getD 11 0).toNat) then (recOf x (x.getD 11 0).toNat, a + 12 + x.getD 11 0, true) else none27
def rd (b : List Int) (a : Int) : T27 × Int × Bool := if 0 ≤ a ∧ a ≤ b.length then rdx (b.drop a.toNat) a else none27
theorem Read_ev {b : List Int} (hb : Bytes b) (hl : b.length < 1073741824) {a : Int} (ha : -9223372036854775808 ≤ a ∧ a < 9223372036854775808) : Ev (fun k => record_Read k b a) (rd b a) := by
  unfold record_Read rd
  by_cases h0 : 0 ≤ a ∧ a ≤ (b.length : Int)
  case neg =>
    rw [if_neg h0]
    refine Ev.bind (b := true) ((Ev.now _).congr fun k => ?_) (Ev.pos rfl (Ev.now _))
    by_cases h1 : a < 0
    · rw [if_pos h1]
    · rw [if_neg h1, if_pos (by omega)]
  rw [if_pos h0]
  unfold rdx
  obtain ⟨x, hx⟩ : ∃ x, x = b.drop a.toNat := ⟨_, rfl⟩
  have hxl : (x.length : Int) = (b.length : Int) - a := by rw [hx, List.length_drop]; omega
  have hxb : Bytes x := hx ▸ hb.drop _
  have e0 : (if a < 0 then some true else if a > (b.length : Int) then some true else some (decide (IntKind.i64.wrap ((b.length : Int) - a) < 12))) = some (decide (x.length < 12)) := by
    rw [if_neg (by omega), if_neg (by omega), i64w (by omega), ← hxl]
    congr 1; exact decide_eq_decide.2 (by omega)
  simp only [e0, Option.bind_some]
  rw [← hx]
  by_cases h1 : x.length < 12
  · rw [if_neg (by omega)]
    simp only [h1, decide_true, if_true]
    exact Ev.now _
  have e1 : (b.take (b.length : Int).toNat).drop a.toNat = x := by rw [Int.toNat_natCast, List.take_length, hx]
  simp only [h1, decide_false, Bool.false_eq_true, if_false, e1, Option.bind_some]
  have hb11 := hxb.get 11
  have e2 : (11 : Int).toNat = 11 := rfl
  have e3 : (1 : Int).toNat = 1 := rfl
  have e4 : (3 : Int).toNat = 3 := rfl
  have e5 : (9 : Int).toNat = 9 := rfl
  have e6 : (12 : Int).toNat = 12 := rfl
  have e7 : (0 : Int).toNat = 0 := rfl
  simp only [e2, e3, e4, e5, e6, e7]
  obtain ⟨m, hm⟩ : ∃ m : Nat, x.getD 11 0 = (m : Int) := ⟨(x.getD 11 0).toNat, by omega⟩
  rw [hm] at hb11 ⊢
  have ew : IntKind.i64.wrap (m : Int) = (m : Int) := i64w (by omega)
  have ew2 : IntKind.i64.wrap ((x.length : Int) - 12) = (x.length : Int) - 12 := i64w (by omega)
  have ew3 : IntKind.i64.wrap (12 + (m : Int)) = ((12 + m : Nat) : Int) := by rw [i64w (by omega)]; omega
  have ew4 : IntKind.i64.wrap (x.getD 0 0) = x.getD 0 0 := byte_id (hxb.get 0)
  refine Ev.pos ⟨h0.1, h0.2, Int.le_refl _⟩ (Ev.pos (by omega) ?_)
  simp only [ew, ew2, ew3, ew4, Int.toNat_natCast]
  refine Ev.ite (fun h2 => (Ev.now _).is ?_) (fun h2 => ?_)
  · rw [if_neg (by omega)]; rfl
  refine Ev.pos (by omega) (Ev.pos (by omega) (Ev.pos (by omega) (Ev.pos (by omega) ?_)))
  refine Ev.bind (number_ev ((hxb.take 3).drop 1) (by simp; omega)) (Ev.bind (number_ev ((hxb.take 9).drop 3) (by simp; omega)) (Ev.bind (number_ev ((hxb.take 11).drop 9) (by simp; omega)) (Ev.pos (by omega) ?_)))
  have er : (⟨x.getD 0 0, num ((x.take 3).drop 1), num ((x.take 9).drop 3), num ((x.take 11).drop 9), strOfNums ((x.take (12 + m)).drop 12)⟩ : T27) = recOf x m := rfl
  rw [er]
  simp only [May_some, Option.bind_some]
  by_cases h3 : Mayr (recOf x m)
  · simp only [h3, decide_true, Bool.not_true, Bool.false_eq_true, if_false]
    rw [if_pos ⟨by omega, by omega, trivial⟩]
    refine (Ev.now _).congr fun k => ?_
    rw [i64w (x := a + 12) (by omega), i64w (by omega)]
  · simp only [h3, decide_false, Bool.not_false, if_true]
    rw [if_neg (fun h => h.2.2)]
    exact Ev.now _
theorem Get_ev {b : List Int} (hb : Bytes b) (hl : b.length < 1073741824) (p s : Nat) (hs : s ≤ 6) (hp : p < 9223372036854775808) : Ev (fun k => grapevineref4_Get k b (p : Int) (s : Int)) (if p + s ≤ b.length then (num ((b.take (p + s)).drop p), true) else (0, false)) := by
  unfold grapevineref4_Get
  by_cases h : p + s ≤ b.length
  · rw [if_pos h]
    refine Ev.bind (b := false) ((Ev.now _).congr fun k => ?_) (Ev.neg (by simp) ?_)
    · rw [if_neg (by omega), if_neg (by omega), i64w (by omega)]
      congr 1; exact decide_eq_false (by omega)
    obtain ⟨l, hld⟩ : ∃ l, l = (b.take (p + s)).drop p := ⟨_, rfl⟩
    have hll : l.length = s := by rw [hld]; simp; omega
    have hlb : Bytes l := hld ▸ (hb.take _).drop _
    rw [← hld]
    refine Ev.bind (b := num l) ?_ (Ev.now _)
    have := Ev.count (F := fun k v i => grapevineref4_Get_l0 b (p : Int) (s : Int) k v i) (r := num l) (fun i => num (l.take i)) s (fun i hi r H => by
      have h1 := num_bound hlb i (by omega)
      have h2 := hlb.get i
      have h3 : 256 ^ i ≤ 256 ^ 5 := Nat.pow_le_pow_right (by omega) (by omega)
      have h3 : 256 ^ i ≤ 1099511627776 := h3
      have h4 : b.getD (p + i) 0 = l.getD i 0 := by rw [hld, getD_drop, getD_take _ _ (by omega)]
      refine Ev.step (fun k => ?_) H
      have ew : IntKind.i64.wrap ((p : Int) + (i : Int)) = ((p + i : Nat) : Int) := by rw [i64w (by omega)]; omega
      rw [grapevineref4_Get_l0, if_pos (by omega), ew, if_pos (by omega), Int.toNat_natCast, h4, byte_id h2, i64w (x := _ * 256) (by omega), i64w (x := _ * 256 + _) (by omega), step64 i (by omega), num_take l (by omega), Int.mul_comm 256]) (by
      refine Ev.step (g := fun _ => some (num l)) (fun k => ?_) (Ev.now _)
      rw [grapevineref4_Get_l0, if_neg (by omega), List.take_of_length_le (by omega)])
    simpa [num, numF] using this
  · rw [if_neg h]
    refine Ev.bind (b := true) ((Ev.now _).congr fun k => ?_) (Ev.pos rfl (Ev.now _))
    rw [if_neg (by omega)]
    by_cases h1 : (s : Int) > (b.length : Int)
    · rw [if_pos h1]
    · rw [if_neg h1, i64w (by omega)]
      congr 1; exact decide_eq_true (by omega)
theorem Get_neg {b : List Int} {p s : Int} (h : p < 0) : Ev (fun k => grapevineref4_Get k b p s) (0, false) := by
  unfold grapevineref4_Get
  exact Ev.bind (b := true) ((Ev.now _).congr fun k => if_pos h) (Ev.pos rfl (Ev.now _))
theorem rRead_ev {b : List Int} (hb : Bytes b) (hl : b.length < 1073741824) {a : Int} (ha : -9223372036854775808 ≤ a ∧ a < 9223372036854775808) : Ev (fun k => grapevineref4_Read k b a) (rd b a) := by
  unfold grapevineref4_Read rd
  have none_ : (⟨0, 0, 0, 0, (⟨#[]⟩ : ByteArray)⟩ : T27) = none27.1 := rfl
  by_cases h0 : 0 ≤ a ∧ a ≤ (b.length : Int)
  case neg =>
    rw [if_neg h0]
    by_cases h1 : a < 0
    · by_cases h2 : IntKind.i64.wrap (a + 11) < 0
      · refine Ev.bind (Get_neg h2) (Ev.bind (b := true) ((Ev.now _).congr fun k => if_pos h1) (Ev.pos rfl (Ev.now _)))
      · obtain ⟨p, hp⟩ : ∃ p : Nat, IntKind.i64.wrap (a + 11) = (p : Int) := ⟨(IntKind.i64.wrap (a + 11)).toNat, by omega⟩
        rw [hp]
        have hpl : p < 9223372036854775808 := by
          have : IntKind.i64.wrap (a + 11) < 9223372036854775808 := by rw [IntKind.wrap_i64]; omega
          omega
        exact Ev.bind (Get_ev hb hl p 1 (by omega) hpl) (Ev.bind (b := true) ((Ev.now _).congr fun k => if_pos h1) (Ev.pos rfl (Ev.now _)))
    · have h3 : (b.length : Int) < a := by omega
      have hbad : Ev (fun k => grapevineref4_Get k b (IntKind.i64.wrap (a + 11)) 1) (0, false) := by
        by_cases h2 : IntKind.i64.wrap (a + 11) < 0
        · exact Get_neg h2
        · have ew : IntKind.i64.wrap (a + 11) = a + 11 := by rw [IntKind.wrap_i64] at h2 ⊢; omega
          obtain ⟨p, hp⟩ : ∃ p : Nat, a + 11 = (p : Int) := ⟨(a + 11).toNat, by omega⟩
          rw [ew, hp]
          have hpl : p < 9223372036854775808 := by rw [IntKind.wrap_i64] at ew; omega
          exact (Get_ev hb hl p 1 (by omega) hpl).is (if_neg (by omega))
      refine Ev.bind hbad (Ev.bind (b := true) ((Ev.now _).congr fun k => ?_) (Ev.pos rfl (Ev.now _)))
      rw [if_neg h1]; rfl
  rw [if_pos h0]
  obtain ⟨p, hpa⟩ : ∃ p : Nat, a = (p : Int) := ⟨a.toNat, by omega⟩
  subst hpa
  have e11 : IntKind.i64.wrap ((p : Int) + 11) = ((p + 11 : Nat) : Int) := by rw [i64w (by omega)]; omega
  have e12 : IntKind.i64.wrap ((p : Int) + 12) = ((p + 12 : Nat) : Int) := by rw [i64w (by omega)]; omega
  have e1 : IntKind.i64.wrap ((p : Int) + 1) = ((p + 1 : Nat) : Int) := by rw [i64w (by omega)]; omega
  have e3 : IntKind.i64.wrap ((p : Int) + 3) = ((p + 3 : Nat) : Int) := by rw [i64w (by omega)]; omega
  have e9 : IntKind.i64.wrap ((p : Int) + 9) = ((p + 9 : Nat) : Int) := by rw [i64w (by omega)]; omega
  simp only [e11, e12, e1, e3, e9, Int.toNat_natCast]
  unfold rdx
  obtain ⟨x, hx⟩ : ∃ x, x = b.drop p := ⟨_, rfl⟩
  have hxl : (x.length : Int) = (b.length : Int) - p := by rw [hx, List.length_drop]; omega
  have hxb : Bytes x := hx ▸ hb.drop _
  rw [← hx]
  have one : ∀ q : Nat, q < x.length → num ((b.take (p + q + 1)).drop (p + q)) = x.getD q 0 := fun q hq => by
    have hl1 : ((b.take (p + q + 1)).drop (p + q)).length = 1 := by simp; omega
    have hd := drop_getD (b.take (p + q + 1)) 0 (i := p + q) (by simp; omega)
    rw [hd, List.drop_eq_nil_of_le (by simp; omega), getD_take _ _ (by omega), hx, getD_drop]
    simp [num, numF]
  by_cases h1 : 12 ≤ x.length
  case neg =>
    rw [if_neg (c := 12 ≤ x.length ∧ _) (fun h => h1 h.1)]
    refine Ev.bind ((Get_ev hb hl (p + 11) 1 (by omega) (by omega)).is (if_neg (by omega))) ?_
    refine Ev.bind (b := true) ((Ev.now _).congr fun k => ?_) (Ev.pos rfl (Ev.now _))
    rw [if_neg (by omega)]; rfl
  have h11 := one 11 (by omega)
  refine Ev.bind ((Get_ev hb hl (p + 11) 1 (by omega) (by omega)).is (if_pos (by omega))) ?_
  rw [h11]
  have hb11 := hxb.get 11
  obtain ⟨m, hm⟩ : ∃ m : Nat, x.getD 11 0 = (m : Int) := ⟨(x.getD 11 0).toNat, by omega⟩
  rw [hm] at hb11 ⊢
  simp only [Int.toNat_natCast]
  have ew5 : IntKind.i64.wrap ((b.length : Int) - (p : Int)) = (x.length : Int) := by rw [i64w (by omega)]; omega
  have ew6 : IntKind.i64.wrap ((x.length : Int) - 12) = (x.length : Int) - 12 := i64w (by omega)
  have ew7 : IntKind.i64.wrap (((p + 12 : Nat) : Int) + (m : Int)) = ((p + 12 + m : Nat) : Int) := by rw [i64w (by omega)]; omega
  have ec : (if (p : Int) < 0 then some true else if (!true) = true then some true else some (decide ((m : Int) > (x.length : Int) - 12))) = some (decide ((m : Int) > (x.length : Int) - 12)) := by rw [if_neg (by omega)]; rfl
  simp only [ew5, ew6, ew7, ec, Option.bind_some]
  by_cases h2 : 12 + m ≤ x.length
  case neg =>
    rw [if_neg (c := 12 ≤ x.length ∧ _) (fun h => h2 h.2.1), decide_eq_true (p := (m : Int) > (x.length : Int) - 12) (by omega)]
    exact Ev.pos rfl (Ev.now _)
  rw [decide_eq_false (p := (m : Int) > (x.length : Int) - 12) (by omega)]
  refine Ev.neg (by simp) (Ev.pos (by omega) ?_)
  have two : ∀ q s : Nat, q + s ≤ x.length → (b.take (p + q + s)).drop (p + q) = (x.take (q + s)).drop q := fun q s hq => by
    rw [hx, List.take_drop, List.drop_drop, Nat.add_assoc]
  have g0 := Get_ev hb hl p 1 (by omega) (by omega)
  have g1 := Get_ev hb hl (p + 1) 2 (by omega) (by omega)
  have g3 := Get_ev hb hl (p + 3) 6 (by omega) (by omega)
  have g9 := Get_ev hb hl (p + 9) 2 (by omega) (by omega)
  rw [if_pos (by omega)] at g0 g1 g3 g9
  have z0 : num ((b.take (p + 1)).drop p) = x.getD 0 0 := one 0 (by omega)
  rw [z0] at g0
  rw [two 1 2 (by omega)] at g1
  rw [two 3 6 (by omega)] at g3
  rw [two 9 2 (by omega)] at g9
  refine Ev.bind g0 (Ev.bind g1 (Ev.bind g3 (Ev.bind g9 ?_)))
  have et : (b.take ((p + 12 + m : Nat) : Int).toNat).drop (p + 12) = (x.take (12 + m)).drop 12 := by rw [Int.toNat_natCast]; exact two 12 m (by omega)
  simp only [Int.toNat_natCast] at et ⊢
  rw [et]
  have er : (⟨x.getD 0 0, num ((x.take 3).drop 1), num ((x.take 9).drop 3), num ((x.take 11).drop 9), strOfNums ((x.take (12 + m)).drop 12)⟩ : T27) = recOf x m := rfl
  rw [er]
  simp only [rMay_some, Option.bind_some]
  by_cases h3 : Mayr (recOf x m)
  · simp only [h3, decide_true, Bool.not_true, Bool.false_eq_true, if_false]
    rw [if_pos ⟨h1, h2, trivial⟩]
    exact (Ev.now _).is (by simp)
  · simp only [h3, decide_false, Bool.not_false, if_true]
    rw [if_neg (fun h => h.2.2)]
    exact Ev.now _

/-! ## What was laid is read again -/
theorem drop_app_len {α : Type} (a b : List α) {n : Nat} (h : a.length = n) : (a ++ b).drop n = b := by subst h; simp
theorem take_app_len {α : Type} (a b : List α) {n : Nat} (h : a.length = n) : (a ++ b).take n = a := by subst h; simp
theorem mid {α : Type} (a b c : List α) {n m : Nat} (hn : a.length = n) (hm : n + b.length = m) : ((a ++ (b ++ c)).take m).drop n = b := by
  subst hn; subst hm
  rw [List.take_append, List.take_of_length_le (by omega), List.drop_append]
  simp
theorem recOf_lay {r : T27} (h : Mayr r) (post : List Int) : recOf (lay r ++ post) r.f4.size = r ∧ (lay r ++ post).getD 11 0 = r.f4.size := by
  obtain ⟨⟨a0, b0, a1, b1⟩, ⟨a2, b2, a3, b3⟩, a4, b4⟩ := h
  have q0 := num_be (n := r.f0.toNat) (s := 1) (by omega)
  have q1 := num_be (n := r.f1.toNat) (s := 2) (by omega)
  have q2 := num_be (n := r.f2.toNat) (s := 6) (by omega)
  have q3 := num_be (n := r.f3.toNat) (s := 2) (by omega)
  have q4 := num_be (n := r.f4.size) (s := 1) (by omega)
  have l0 := len_be r.f0.toNat 1
  have l1 := len_be r.f1.toNat 2
  have l2 := len_be r.f2.toNat 6
  have l3 := len_be r.f3.toNat 2
  have l4 := len_be r.f4.size 1
  have l5 := len_bytesOf r.f4
  have e : lay r ++ post = be r.f0.toNat 1 ++ (be r.f1.toNat 2 ++ (be r.f2.toNat 6 ++ (be r.f3.toNat 2 ++ (be r.f4.size 1 ++ (bytesOf r.f4 ++ post))))) := by simp [lay, head]
  have one : ∀ (n : Nat) (l : List Int), n < 256 → (be n 1 ++ l).getD 0 0 = n := fun n l hn => by
    simp [be]; omega
  have c0 : (lay r ++ post).getD 0 0 = r.f0 := by rw [e, one _ _ (by omega)]; omega
  have c11 : (lay r ++ post).getD 11 0 = r.f4.size := by
    have e' : lay r ++ post = (be r.f0.toNat 1 ++ be r.f1.toNat 2 ++ be r.f2.toNat 6 ++ be r.f3.toNat 2) ++ (be r.f4.size 1 ++ (bytesOf r.f4 ++ post)) := by simp [lay, head]
    have h11 : (be r.f0.toNat 1 ++ be r.f1.toNat 2 ++ be r.f2.toNat 6 ++ be r.f3.toNat 2).length = 11 := by simp [len_be]
    rw [e']
    have := getD_app_right (be r.f0.toNat 1 ++ be r.f1.toNat 2 ++ be r.f2.toNat 6 ++ be r.f3.toNat 2) (be r.f4.size 1 ++ (bytesOf r.f4 ++ post)) 0 0
    rw [h11] at this
    rw [this, one _ _ (by omega)]
  have c1 : ((lay r ++ post).take 3).drop 1 = be r.f1.toNat 2 := by rw [e]; exact mid _ _ _ (by omega) (by omega)
  have c2 : ((lay r ++ post).take 9).drop 3 = be r.f2.toNat 6 := by
    rw [e, ← List.append_assoc]; exact mid _ _ _ (by simp; omega) (by omega)
  have c3 : ((lay r ++ post).take 11).drop 9 = be r.f3.toNat 2 := by
    rw [e, ← List.append_assoc, ← List.append_assoc]; exact mid _ _ _ (by simp; omega) (by omega)
  have c4 : ((lay r ++ post).take (12 + r.f4.size)).drop 12 = bytesOf r.f4 := by
    rw [lay, List.append_assoc]; exact mid _ _ _ (len_head r) (by omega)
  refine ⟨?_, c11⟩
  unfold recOf
  rw [c0, c1, c2, c3, c4, q1, q2, q3, strOfNums_bytesOf]
  have t1 : ((r.f1.toNat : Nat) : Int) = r.f1 := by omega
  have t2 : ((r.f2.toNat : Nat) : Int) = r.f2 := by omega
  have t3 : ((r.f3.toNat : Nat) : Int) = r.f3 := by omega
  rw [t1, t2, t3]
theorem rd_lay {r : T27} (h : Mayr r) (pre post : List Int) : rd (pre ++ lay r ++ post) (pre.length : Int) = (r, (pre.length : Int) + 12 + r.f4.size, true) := by
  obtain ⟨h1, h2⟩ := recOf_lay h post
  unfold rd rdx
  rw [if_pos (by simp; omega), Int.toNat_natCast, List.append_assoc, drop_app_len _ _ rfl, h2]
  simp only [Int.toNat_natCast, h1]
  rw [if_pos ⟨by simp [len_lay]; omega, by simp [len_lay], h⟩]
/-- what ends within what was laid is none -/
theorem rd_cut {r : T27} (h : Mayr r) (pre : List Int) {c : Nat} (hc : c < (lay r).length) : rd (pre ++ (lay r).take c) (pre.length : Int) = none27 := by
  obtain ⟨h1, h2⟩ := recOf_lay h []
  rw [List.append_nil] at h2
  unfold rd rdx
  rw [if_pos (by simp; omega), Int.toNat_natCast, drop_app_len _ _ rfl]
  refine if_neg fun hh => ?_
  obtain ⟨g1, g2, _⟩ := hh
  have hl : ((lay r).take c).length = c := by rw [List.length_take]; omega
  rw [getD_take _ _ (by omega), h2, Int.toNat_natCast, hl] at g2
  rw [len_lay] at hc
  omega
theorem lay_inj {r s : T27} (hr : Mayr r) (hs : Mayr s) (h : lay r = lay s) : r = s := by
  have h1 := rd_lay hr [] []
  have h2 := rd_lay hs [] []
  rw [h] at h1
  rw [h1] at h2
  exact (Prod.mk.inj h2).1
theorem awake_ev : Ev (fun k => grapevinelaw4_awake k) true := by
  unfold grapevinelaw4_awake
  have hv : Lib.validD [97] = true := by decide +kernel
  have hm : Mayr ⟨0, 1, 7, 0, ⟨#[97]⟩⟩ := ⟨by simp, by simp, by simp [ByteArray.size], hv⟩
  have hlay : lay ⟨0, 1, 7, 0, ⟨#[97]⟩⟩ = [0, 0, 1, 0, 0, 0, 0, 0, 7, 0, 0, 1, 97] := by decide +kernel
  have hone : grapevinelaw4_one = some ⟨0, 1, 7, 0, ⟨#[97]⟩⟩ := rfl
  simp only [hone, Option.bind_some]
  have hlaid : laid ⟨0, 1, 7, 0, ⟨#[97]⟩⟩ = (lay ⟨0, 1, 7, 0, ⟨#[97]⟩⟩, 0) := if_pos hm
  refine Ev.bind ((Lay_ev _).is hlaid) (Ev.pos (by rw [hlay]; simp) ?_)
  have hrd := rd_lay hm [9] []
  rw [List.append_nil] at hrd
  refine Ev.bind ((Read_ev (Bytes.app (fun x hx => by simp at hx; omega) (lay_bytes _)) (by simp [len_lay]; decide) (by omega)).is hrd) ?_
  refine Ev.bind (b := true) ?_ (Ev.now _)
  refine Ev.bind ((SameBytes_ev _ _ (by rw [hlay]; simp)).is (decide_eq_true hlay)) (Ev.pos rfl (Ev.pos rfl (Ev.pos rfl (Ev.pos (by decide) (Ev.pos rfl ?_)))))
  simp only [May_some, hm, decide_true, if_true, Option.bind_some, record_Same]
  exact Ev.now _
end Go.Proofs.YtjmhhmljldjmjaaDoor.Pure
