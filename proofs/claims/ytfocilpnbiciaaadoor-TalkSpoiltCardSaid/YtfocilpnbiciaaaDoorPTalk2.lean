/- Messages in plain words: their bytes. -/
import Derived.Test.YtfocilpnbiciaaaDoorF2
import Derived.Test.YtfocilpnbiciaaaDoorF7
import Derived.Test.YtfocilpnbiciaaaDoorPTalk
namespace Go.Proofs.YtfocilpnbiciaaaDoor.Pure
open Go Go.Gg Go.Gp Gf
set_option linter.unusedVariables false
set_option linter.unusedSimpArgs false

theorem concat_ev (V W : List Int) (hV : V.length ≤ 1000) (hW : W.length ≤ 1000) : Ev (fun k => slices_Concat_int_int k [V, W]) (V ++ W) := by
  unfold slices_Concat_int_int
  have g0 : ([V, W] : List (List Int)).getD (0 : Int).toNat [] = V := rfl
  have g1 : ([V, W] : List (List Int)).getD (1 : Int).toNat [] = W := rfl
  have hl : (([V, W] : List (List Int)).length : Int) = 2 := rfl
  have w1 : IntKind.i64.wrap ((0 : Int) + 1) = 1 := i64w (by omega)
  have w2 : IntKind.i64.wrap ((1 : Int) + 1) = 2 := i64w (by omega)
  have e1 : IntKind.i64.wrap (0 + (V.length : Int)) = (V.length : Int) := by rw [i64w (by omega)]; omega
  have e2 : IntKind.i64.wrap ((V.length : Int) + (W.length : Int)) = (V.length : Int) + (W.length : Int) := i64w (by omega)
  refine Ev.bind (b := (V.length : Int) + (W.length : Int)) ?_ ?_
  · refine Ev.step (fun k => by rw [slices_Concat_int_int_l0, g0, e1, w1, hl]) ?_
    refine Ev.pos (by omega) (Ev.pos (by omega) (Ev.name fun v hv => ?_))
    subst hv
    refine Ev.neg (by omega) ?_
    refine Ev.step (fun k => by rw [slices_Concat_int_int_l0, g1, e2, w2, hl]) ?_
    refine Ev.pos (by omega) (Ev.pos (by omega) (Ev.name fun v hv => ?_))
    subst hv
    refine Ev.neg (by omega) ?_
    refine Ev.step (fun k => by rw [slices_Concat_int_int_l0, hl]) ?_
    exact Ev.neg (by omega) (Ev.now _)
  refine Ev.bind (b := ([] : List Int)) ((Ev.now _).congr fun k => ?_) ?_
  · unfold slices_Grow_int_int
    rw [if_neg (by omega), i64w (by omega)]
    by_cases h : (V.length : Int) + (W.length : Int) - 0 > 0
    · rw [if_pos h, if_pos (by omega), if_pos ⟨by omega, by omega, by omega⟩]; simp
    · rw [if_neg h]
  refine Ev.bind (b := V ++ W) ?_ (Ev.now _)
  refine Ev.step (fun k => by rw [slices_Concat_int_int_l1, g0, w1, hl]) ?_
  refine Ev.pos (by omega) (Ev.pos (by omega) (Ev.pos (by simp; omega) ?_))
  refine Ev.step (fun k => by rw [slices_Concat_int_int_l1, g1, w2, hl]) ?_
  refine Ev.pos (by omega) (Ev.pos (by omega) (Ev.pos (by simp; omega) ?_))
  refine Ev.step (fun k => by rw [slices_Concat_int_int_l1, hl]) ?_
  exact Ev.neg (by omega) (Ev.now _)
theorem len_twos (v : List Int) : (v.flatMap two).length = 2 * v.length := by
  have := len_vb v
  simp only [vb, List.length_append, len_be] at this
  omega
theorem twos_bytes (v : List Int) : Bytes (v.flatMap two) := fun x hx => by
  obtain ⟨y, _, hy⟩ := List.mem_flatMap.1 hx
  exact be_bytes _ _ x hy
theorem two_code {x : Int} (h : 0 ≤ x ∧ x ≤ 65535) : [IntKind.u8.wrap (shrK .i64 x 8), IntKind.u8.wrap x] = two x := by
  obtain ⟨m, rfl⟩ : ∃ m : Nat, x = (m : Int) := ⟨x.toNat, by omega⟩
  have e2 : shrK .i64 (m : Int) 8 = ((m / 256 : Nat) : Int) := by
    have := shr_i64 m 1 (by omega)
    simpa using this
  rw [e2, byte_of, byte_of]; simp [two, be]
theorem twos_ev (t l : List Int) (ht : ∀ x ∈ t, 0 ≤ x ∧ x ≤ 65535) (hl : l.length + 2 * t.length ≤ 1073741824) : Ev (fun k => talk_Lay_l0 t k l 0) (l ++ t.flatMap two) := by
  have h := Ev.count (F := fun k s i => talk_Lay_l0 t k s i) (r := l ++ t.flatMap two) (fun i => l ++ (t.take i).flatMap two) t.length (fun i hi r H => by
    have el : ((t.take i).flatMap two).length = 2 * i := by rw [len_twos]; simp; omega
    refine Ev.step (fun k => by rw [talk_Lay_l0, step64 i (by omega), Int.toNat_natCast, two_code (ht _ (getD_mem t 0 hi))]) ?_
    refine Ev.pos (by omega) (Ev.pos (by omega) (Ev.pos (by rw [List.length_append, el]; simp only [two, len_be]; omega) ?_))
    have e3 : (t.take (i + 1)).flatMap two = (t.take i).flatMap two ++ two (t.getD i 0) := by rw [take_getD t 0 hi]; simp
    rw [e3] at H
    rw [List.append_assoc]
    exact H) (by
    exact Ev.step (g := fun _ => some (l ++ t.flatMap two)) (fun k => by rw [talk_Lay_l0, if_neg (by omega), List.take_of_length_le (Nat.le_refl _)]) (Ev.now _))
  simpa using h
def lays (rs : List T39) : List Int := rs.flatMap lay
theorem lays_len {rs : List T39} (h : ∀ r ∈ rs, Mayr r) : (lays rs).length ≤ 132 * rs.length ∧ Bytes (lays rs) := by
  induction rs with
  | nil => exact ⟨by simp [lays], Bytes.nil⟩
  | cons r rs ih =>
    obtain ⟨h1, h2⟩ := ih fun x hx => h x (by simp [hx])
    have h3 := (h r (by simp)).2.2.1
    have e : lays (r :: rs) = lay r ++ lays rs := by simp [lays]
    rw [e, List.length_append, len_lay, List.length_cons]
    exact ⟨by omega, (lay_bytes r).app h2⟩
theorem Rise.mem {n : Int} {rs : List T39} (h : Rise n rs) : ∀ r ∈ rs, Mayr r := fun r hr => by
  obtain ⟨i, hi, rfl⟩ := List.mem_iff_getElem.1 hr
  have := (h i hi).1
  rwa [getD_eq rs z39 hi] at this
theorem lays_ev (m : T54) (hm : ∀ r ∈ m.f5, Mayr r) (h5 : m.f5.length ≤ 5) (l : List Int) (hl : l.length ≤ 1000) : Ev (fun k => talk_Lay_l1 m k l 0) (l ++ lays m.f5) := by
  have h := Ev.count (F := fun k s i => talk_Lay_l1 m k s i) (r := l ++ lays m.f5) (fun i => l ++ lays (m.f5.take i)) m.f5.length (fun i hi r H => by
    have hr := hm _ (getD_mem m.f5 z39 hi)
    have el := (lays_len (rs := m.f5.take i) fun x hx => hm x (List.mem_of_mem_take hx)).1
    have er := hr.2.2.1
    have et : (m.f5.take i).length = i := by simp; omega
    refine Ev.step (fun k => by rw [talk_Lay_l1, step64 i (by omega), Int.toNat_natCast]) ?_
    refine Ev.pos (by omega) (Ev.pos (by omega) (Ev.bind ((Lay_ev (m.f5.getD i z39)).is (if_pos hr)) (Ev.pos (by simp only [List.length_append, len_lay]; omega) ?_)))
    have e3 : lays (m.f5.take (i + 1)) = lays (m.f5.take i) ++ lay (m.f5.getD i z39) := by unfold lays; rw [take_getD m.f5 z39 hi]; simp
    rw [e3] at H
    rw [List.append_assoc]
    exact H) (by
    exact Ev.step (g := fun _ => some (l ++ lays m.f5)) (fun k => by rw [talk_Lay_l1, if_neg (by omega), List.take_of_length_le (Nat.le_refl _)]) (Ev.now _))
  simpa [lays] using h
def bodyT (m : T54) (n : Int) : List Int := [m.f1, m.f2, n] ++ (m.f3 ++ m.f4).flatMap two ++ be m.f5.length 1 ++ lays m.f5
def laidT (m : T54) (n : Int) : List Int × Int := if MayT m n then (frameOf m.f0 (bodyT m n), 0) else ([], 2)
theorem MayT.facts {m : T54} {n : Int} (h : MayT m n) : (1 ≤ m.f0 ∧ m.f0 ≤ 2) ∧ (1 ≤ n ∧ n ≤ 8) ∧ (m.f3.length : Int) = n ∧ (m.f4.length : Int) = n ∧ (∀ x ∈ m.f3 ++ m.f4, 0 ≤ x ∧ x ≤ 65535) ∧ m.f5.length ≤ 5 ∧ (0 ≤ m.f1 ∧ m.f1 < 8) ∧ (0 ≤ m.f2 ∧ m.f2 < 8) := by
  obtain ⟨h0, h1, h2, h3, h4, h5, h6, h7⟩ := h
  refine ⟨?_, by have := h4.1; omega, h4.1.2.2, h5.1.2.2, fun x hx => ?_, ?_, by have := h4.1; omega, by have := h4.1; omega⟩
  · omega
  · rcases List.mem_append.1 hx with hx | hx
    · have := h4.mem hx; omega
    · have := h5.mem hx; omega
  · rcases h0 with ⟨_, h⟩ | ⟨_, h⟩
    · rw [h]; simp
    · exact h
theorem bodyT_len {m : T54} {n : Int} (h : MayT m n) : (bodyT m n).length ≤ 1000 ∧ Bytes (bodyT m n) := by
  obtain ⟨h0, h1, h3, h4, h5, h6, h7, h8⟩ := h.facts
  have hl := lays_len h.2.2.2.2.2.2.2.mem
  constructor
  · simp only [bodyT, List.length_append, len_twos, len_be, List.length_cons, List.length_nil]; omega
  · refine ((Bytes.app ?_ (twos_bytes _)).app (be_bytes _ _)).app hl.2
    intro x hx
    simp at hx; omega
theorem tLay_ev (m : T54) (n : Int) : Ev (fun k => talk_Lay k m n) (laidT m n) := by
  unfold talk_Lay laidT
  refine Ev.bind (tMay_ev m n) ?_
  by_cases h : MayT m n
  case neg => rw [if_neg h]; exact Ev.pos (by simp [h]) (Ev.now _)
  rw [if_pos h]
  refine Ev.neg (by simp [h]) ?_
  obtain ⟨h0, h1, h3, h4, h5, h6, h7, h8⟩ := h.facts
  have hb := bodyT_len h
  rw [u8w (x := m.f1) (by omega), u8w (x := m.f2) (by omega), u8w (x := n) (by omega)]
  refine Ev.name fun v hv => ?_
  subst hv
  refine Ev.bind (concat_ev m.f3 m.f4 (by omega) (by omega)) (Ev.bind (twos_ev _ _ h5 (by simp only [List.length_append, List.length_cons, List.length_nil]; omega)) (Ev.pos (by simp only [List.length_append, len_twos, len_be, List.length_cons, List.length_nil]; omega) ?_))
  refine Ev.name fun v hv => ?_
  subst hv
  have e0 : [IntKind.u8.wrap (m.f5.length : Int)] = be m.f5.length 1 := by simp [be, byte_of]
  rw [e0]
  refine Ev.bind (lays_ev m h.2.2.2.2.2.2.2.mem h6 _ (by simp only [List.length_append, len_twos, len_be, List.length_cons, List.length_nil]; omega)) ?_
  have eb : [m.f1, m.f2, n] ++ (m.f3 ++ m.f4).flatMap two ++ be m.f5.length 1 ++ lays m.f5 = bodyT m n := rfl
  rw [eb]
  exact Ev.bind (b := (frameOf m.f0 (bodyT m n), 0)) ((frame_Lay_ev _ _).is (if_neg (by omega))) (Ev.now _)
theorem rtwos_ev (n : Nat) (V l : List Int) (F : Nat → List Int → Int → Option (List Int)) (hF : ∀ k y i, F (k + 1) y i = (if i < (n : Int) then (if 0 ≤ i ∧ i < (V.length : Int) then ((grapevineref4_Num k y (V.getD i.toNat 0) 2).bind fun t => F k t (IntKind.i64.wrap (i + 1))) else none) else some y)) (hn : V.length = n) (hV : ∀ x ∈ V, 0 ≤ x ∧ x ≤ 65535) (hl : l.length + 2 * V.length ≤ 1073741824) :
    Ev (fun k => F k l 0) (l ++ V.flatMap two) := by
  have h := Ev.count (F := F) (r := l ++ V.flatMap two) (fun i => l ++ (V.take i).flatMap two) V.length (fun i hi r H => by
    have el : ((V.take i).flatMap two).length = 2 * i := by rw [len_twos]; simp; omega
    have hx := hV _ (getD_mem V 0 hi)
    refine Ev.step (fun k => by rw [hF, step64 i (by omega), Int.toNat_natCast]) ?_
    have hp := rPut_ev (x := V.getD i 0) (by omega) 2 (l ++ (V.take i).flatMap two) (by omega) (by rw [List.length_append, el]; omega)
    refine Ev.pos (by omega) (Ev.pos (by omega) (Ev.bind hp ?_))
    have e3 : (V.take (i + 1)).flatMap two = (V.take i).flatMap two ++ two (V.getD i 0) := by rw [take_getD V 0 hi]; simp
    rw [e3] at H
    rw [List.append_assoc]
    exact H) (by
    exact Ev.step (g := fun _ => some (l ++ V.flatMap two)) (fun k => by rw [hF, if_neg (by omega), List.take_of_length_le (Nat.le_refl _)]) (Ev.now _))
  simpa using h
theorem rlays_ev (m : T54) (hm : ∀ r ∈ m.f5, Mayr r) (h5 : m.f5.length ≤ 5) (l : List Int) (hl : l.length ≤ 1000) : Ev (fun k => grapevineref20_Lay_l2 m k l 0) (l ++ lays m.f5) := by
  have h := Ev.count (F := fun k s i => grapevineref20_Lay_l2 m k s i) (r := l ++ lays m.f5) (fun i => l ++ lays (m.f5.take i)) m.f5.length (fun i hi r H => by
    have hr := hm _ (getD_mem m.f5 z39 hi)
    have el := (lays_len (rs := m.f5.take i) fun x hx => hm x (List.mem_of_mem_take hx)).1
    have er := hr.2.2.1
    have et : (m.f5.take i).length = i := by simp; omega
    refine Ev.step (fun k => by rw [grapevineref20_Lay_l2, step64 i (by omega), Int.toNat_natCast]) ?_
    refine Ev.pos (by omega) (Ev.pos (by omega) (Ev.bind ((rLay_ev (m.f5.getD i z39)).is (if_pos hr)) (Ev.pos (by simp only [List.length_append, len_lay]; omega) ?_)))
    have e3 : lays (m.f5.take (i + 1)) = lays (m.f5.take i) ++ lay (m.f5.getD i z39) := by unfold lays; rw [take_getD m.f5 z39 hi]; simp
    rw [e3] at H
    rw [List.append_assoc]
    exact H) (by
    exact Ev.step (g := fun _ => some (l ++ lays m.f5)) (fun k => by rw [grapevineref20_Lay_l2, if_neg (by omega), List.take_of_length_le (Nat.le_refl _)]) (Ev.now _))
  simpa [lays] using h
theorem rtLay_ev (m : T54) (n : Int) : Ev (fun k => grapevineref20_Lay k m n) (laidT m n) := by
  unfold grapevineref20_Lay laidT
  refine Ev.bind (rtMay_ev m n) ?_
  by_cases h : MayT m n
  case neg => rw [if_neg h]; exact Ev.pos (by simp [h]) (Ev.now _)
  rw [if_pos h]
  refine Ev.neg (by simp [h]) ?_
  obtain ⟨h0, h1, h3, h4, h5, h6, h7, h8⟩ := h.facts
  have hb := bodyT_len h
  rw [u8w (x := m.f1) (by omega), u8w (x := m.f2) (by omega), u8w (x := n) (by omega)]
  refine Ev.name fun v hv => ?_
  subst hv
  refine Ev.bind (rtwos_ev n.toNat m.f3 [m.f1, m.f2, n] (fun k y i => grapevineref20_Lay_l0 m n k y i) (fun k y i => by rw [grapevineref20_Lay_l0, show ((n.toNat : Nat) : Int) = n by omega]) (by omega) (fun x hx => h5 x (List.mem_append.2 (.inl hx))) (by simp only [List.length_cons, List.length_nil]; omega)) ?_
  refine Ev.bind (rtwos_ev n.toNat m.f4 _ (fun k y i => grapevineref20_Lay_l1 m n k y i) (fun k y i => by rw [grapevineref20_Lay_l1, show ((n.toNat : Nat) : Int) = n by omega]) (by omega) (fun x hx => h5 x (List.mem_append.2 (.inr hx))) (by simp only [List.length_append, len_twos, len_be, List.length_cons, List.length_nil]; omega)) ?_
  refine Ev.bind (rPut_ev (x := (m.f5.length : Int)) (by omega) 1 _ (by omega) (by simp only [List.length_append, len_twos, len_be, List.length_cons, List.length_nil]; omega)) ?_
  rw [Int.toNat_natCast]
  refine Ev.bind (rlays_ev m h.2.2.2.2.2.2.2.mem h6 _ (by simp only [List.length_append, len_twos, len_be, List.length_cons, List.length_nil]; omega)) ?_
  have eb : [m.f1, m.f2, n] ++ m.f3.flatMap two ++ m.f4.flatMap two ++ be m.f5.length 1 ++ lays m.f5 = bodyT m n := by simp [bodyT]
  rw [eb]
  exact Ev.bind (b := (frameOf m.f0 (bodyT m n), 0)) ((rFLay_ev _ _ (by unfold Short maxLen; omega)).is (if_neg (by omega))) (Ev.now _)
end Go.Proofs.YtfocilpnbiciaaaDoor.Pure
