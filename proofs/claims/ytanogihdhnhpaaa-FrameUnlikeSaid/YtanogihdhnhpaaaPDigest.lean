/- What the digests tell, in plain words: the fold of one step over all bytes. -/
import Derived.Test.YtanogihdhnhpaaaF0
import Derived.Test.YtanogihdhnhpaaaGgP
namespace Go.Proofs.Ytanogihdhnhpaaa.Pure
open Go Go.Gg Go.Gp Gf
set_option linter.unusedVariables false

def fnvS (h x : Int) : Int := IntKind.u64.wrap ((Go.bits .xor .u64 h (IntKind.u64.wrap x)) * 1099511628211)
def fnv (h : Int) (bs : List Int) : Int := bs.foldl fnvS h
def fnv0 : Int := 14695981039346656037
def be8 (d : Int) : List Int := [IntKind.u8.wrap (shrK .u64 d 56), IntKind.u8.wrap (shrK .u64 d 48), IntKind.u8.wrap (shrK .u64 d 40), IntKind.u8.wrap (shrK .u64 d 32), IntKind.u8.wrap (shrK .u64 d 24), IntKind.u8.wrap (shrK .u64 d 16), IntKind.u8.wrap (shrK .u64 d 8), IntKind.u8.wrap (shrK .u64 d 0)]
def be8s (ds : List Int) : List Int := ds.flatMap be8
def someB (ds : List Int) : Bool := ds.any (· != 0)
abbrev Short {α : Type} (xs : List α) : Prop := xs.length ≤ maxLen
theorem short_lt {α : Type} {xs : List α} (h : Short xs) : xs.length < 9223372036854775808 := by
  simp only [Short, maxLen] at h; omega

theorem fnv_app (h : Int) (a b : List Int) : fnv h (a ++ b) = fnv (fnv h a) b := List.foldl_append

theorem digest_Of_l1_ev (xs : List (List Int)) (i : Int) (hy : Short (xs.getD i.toNat [])) (h : Int) :
    Ev (fun k => digest_Of_l1 xs i k h 0) (fnv h (xs.getD i.toNat [])) := by
  generalize hys : xs.getD i.toNat [] = ys at hy ⊢
  have hl := short_lt hy
  have key := Ev.count (F := fun k s j => digest_Of_l1 xs i k s j) (r := fnv h ys) (fun j => fnv h (ys.take j)) ys.length ?_ ?_
  · simpa [fnv] using key
  · intro j hj r H
    refine Ev.step (fun k => by rw [digest_Of_l1, hys]) ?_
    refine Ev.pos (by omega) (Ev.pos (by omega) ?_)
    rw [i64w (by omega)]
    simp only [take_getD ys 0 hj, fnv_app] at H
    exact H
  · refine Ev.step (fun k => by rw [digest_Of_l1, hys]) ?_
    refine Ev.neg (by omega) ?_
    simpa using Ev.now _

theorem digest_Of_ev (xs : List (List Int)) (hx : Short xs) (hy : ∀ y ∈ xs, Short y) : Ev (fun k => digest_Of k xs) (fnv fnv0 xs.flatten) := by
  have hl := short_lt hx
  unfold digest_Of
  refine Ev.bind (b := fnv fnv0 xs.flatten) ?_ (Ev.now _)
  have key := Ev.count (F := fun k s j => digest_Of_l0 xs k s j) (r := fnv fnv0 xs.flatten) (fun j => fnv fnv0 (xs.take j).flatten) xs.length ?_ ?_
  · exact key
  · intro j hj r H
    refine Ev.step (fun k => by rw [digest_Of_l0]) ?_
    refine Ev.pos (by omega) (Ev.pos (by omega) ?_)
    refine Ev.bind (digest_Of_l1_ev xs j (hy _ (getD_mem xs [] (by omega))) _) ?_
    rw [i64w (by omega)]
    simp only [take_getD xs [] hj, List.flatten_append, fnv_app] at H
    simpa using H
  · refine Ev.step (fun k => by rw [digest_Of_l0]) ?_
    refine Ev.neg (by omega) ?_
    simpa using Ev.now _

theorem grapevineref5_more_ev (ys : List Int) (hy : Short ys) (h : Int) : Ev (fun k => grapevineref5_more k h ys) (fnv h ys) := by
  have hl := short_lt hy
  unfold grapevineref5_more
  refine Ev.bind (b := fnv h ys) ?_ (Ev.now _)
  have key := Ev.count (F := fun k s j => grapevineref5_more_l0 ys k s j) (r := fnv h ys) (fun j => fnv h (ys.take j)) ys.length ?_ ?_
  · simpa [fnv] using key
  · intro j hj r H
    refine Ev.step (fun k => by rw [grapevineref5_more_l0]) ?_
    refine Ev.pos (by omega) (Ev.pos (by omega) ?_)
    rw [i64w (by omega)]
    simp only [take_getD ys 0 hj, fnv_app] at H
    exact H
  · refine Ev.step (fun k => by rw [grapevineref5_more_l0]) ?_
    refine Ev.neg (by omega) ?_
    simpa using Ev.now _

theorem grapevineref5_Of_ev (xs : List (List Int)) (hx : Short xs) (hy : ∀ y ∈ xs, Short y) : Ev (fun k => grapevineref5_Of k xs) (fnv fnv0 xs.flatten) := by
  have hl := short_lt hx
  unfold grapevineref5_Of
  refine Ev.bind (b := fnv fnv0 xs.flatten) ?_ (Ev.now _)
  have key := Ev.count (F := fun k s j => grapevineref5_Of_l0 xs k s j) (r := fnv fnv0 xs.flatten) (fun j => fnv fnv0 (xs.take j).flatten) xs.length ?_ ?_
  · exact key
  · intro j hj r H
    refine Ev.step (fun k => by rw [grapevineref5_Of_l0]) ?_
    refine Ev.pos (by omega) (Ev.pos (by omega) ?_)
    refine Ev.bind (grapevineref5_more_ev _ (hy _ (getD_mem xs [] (by omega))) _) ?_
    rw [i64w (by omega)]
    simp only [take_getD xs [] hj, List.flatten_append, fnv_app] at H
    simpa using H
  · refine Ev.step (fun k => by rw [grapevineref5_Of_l0]) ?_
    refine Ev.neg (by omega) ?_
    simpa using Ev.now _

theorem len_be8s (ds : List Int) : (be8s ds).length = 8 * ds.length := by
  induction ds with
  | nil => rfl
  | cons d ds ih => simp only [be8s, List.flatMap_cons, List.length_append, List.length_cons] at ih ⊢; rw [ih]; simp [be8]; omega
theorem be8s_take (ds : List Int) {i : Nat} (h : i < ds.length) : be8s (ds.take (i + 1)) = be8s (ds.take i) ++ be8 (ds.getD i 0) := by
  rw [take_getD ds 0 h]; simp [be8s]
theorem someB_take (ds : List Int) {i : Nat} (h : i < ds.length) : someB (ds.take (i + 1)) = (someB (ds.take i) || (ds.getD i 0 != 0)) := by
  rw [take_getD ds 0 h]; simp [someB]

theorem digest_All_l1_ev (xs : List Int) (i : Int) (b : List Int) (hb : b.length + 8 ≤ 1073741824) : Ev (fun k => digest_All_l1 xs i k b 56) (b ++ be8 (xs.getD i.toNat 0)) := by
  generalize hx : xs.getD i.toNat 0 = x
  have one : ∀ (c : List Int) (p q : Int) (r : List Int) (_ : 0 ≤ p) (_ : p ≤ 56) (_ : q = p - 8) (_ : c.length < 1073741824), Ev (fun k => digest_All_l1 xs i k (c ++ [IntKind.u8.wrap (shrK .u64 x p)]) q) r → Ev (fun k => digest_All_l1 xs i k c p) r := by
    intro c p q r h0 h1 hq hc H
    refine Ev.step (fun k => by rw [digest_All_l1, hx]) ?_
    refine Ev.pos h0 (Ev.pos h0 (Ev.pos (by simp; omega) ?_))
    rw [i64w (by omega), ← hq]
    exact H
  refine one b 56 48 _ (by omega) (by omega) (by omega) (by omega) ?_
  refine one _ 48 40 _ (by omega) (by omega) (by omega) (by simp; omega) ?_
  refine one _ 40 32 _ (by omega) (by omega) (by omega) (by simp; omega) ?_
  refine one _ 32 24 _ (by omega) (by omega) (by omega) (by simp; omega) ?_
  refine one _ 24 16 _ (by omega) (by omega) (by omega) (by simp; omega) ?_
  refine one _ 16 8 _ (by omega) (by omega) (by omega) (by simp; omega) ?_
  refine one _ 8 0 _ (by omega) (by omega) (by omega) (by simp; omega) ?_
  refine one _ 0 (-8) _ (by omega) (by omega) (by omega) (by simp; omega) ?_
  refine Ev.step (fun k => by rw [digest_All_l1]) ?_
  refine Ev.neg (by omega) ?_
  simpa [be8] using Ev.now _

theorem digest_All_ev (xs : List Int) (hx : xs.length ≤ 134217728) : Ev (fun k => digest_All k xs) (if someB xs = true then fnv fnv0 (be8s xs) else 0) := by
  unfold digest_All
  refine Ev.bind (b := (be8s xs, someB xs)) ?_ ?_
  · have key := Ev.count (F := fun k s j => digest_All_l0 xs k s.1 s.2 j) (r := (be8s xs, someB xs)) (fun j => (be8s (xs.take j), someB (xs.take j))) xs.length ?_ ?_
    · exact key
    · intro j hj r H
      refine Ev.step (fun k => by rw [digest_All_l0]) ?_
      refine Ev.pos (by omega) (Ev.pos (by omega) ?_)
      refine Ev.bind (b := (someB (xs.take j) || (xs.getD j 0 != 0))) ?_ ?_
      · cases someB (xs.take j)
        · exact Ev.neg (by simp) (Ev.now _)
        · exact Ev.pos rfl (Ev.now _)
      · refine Ev.bind (digest_All_l1_ev xs j _ (by rw [len_be8s, List.length_take]; omega)) ?_
        rw [i64w (by omega)]
        simp only [be8s_take xs hj, someB_take xs hj] at H
        simpa using H
    · refine Ev.step (fun k => by rw [digest_All_l0]) ?_
      refine Ev.neg (by omega) ?_
      simpa using Ev.now _
  · refine Ev.ite (fun h => ?_) (fun h => ?_)
    · rw [if_neg (by simpa using h)]; exact Ev.now _
    · rw [if_pos (by simpa using h)]
      refine Ev.bind (digest_Of_ev [be8s xs] (by simp [Short, maxLen]) (by simp [Short, maxLen, len_be8s]; omega)) ?_
      simpa using Ev.now _

theorem grapevineref5_All_l1_ev (xs : List Int) (i : Int) (hi : 0 ≤ i ∧ i < (xs.length : Int)) (b : List Int) (hb : b.length + 8 ≤ 1073741824) : Ev (fun k => grapevineref5_All_l1 xs i k b 7) (b ++ be8 (xs.getD i.toNat 0)) := by
  generalize hx : xs.getD i.toNat 0 = x
  have one : ∀ (c : List Int) (p q s : Int) (r : List Int) (_ : 0 ≤ p) (_ : p ≤ 7) (_ : q = p - 1) (_ : s = 8 * p) (_ : c.length < 1073741824), Ev (fun k => grapevineref5_All_l1 xs i k (c ++ [IntKind.u8.wrap (shrK .u64 x s)]) q) r → Ev (fun k => grapevineref5_All_l1 xs i k c p) r := by
    intro c p q s r h0 h1 hq hs hc H
    refine Ev.step (fun k => by rw [grapevineref5_All_l1, hx, i64w (x := 8 * p) (by omega), i64w (x := p - 1) (by omega), ← hs]) ?_
    refine Ev.pos h0 (Ev.pos hi (Ev.pos (by omega) (Ev.pos (by simp; omega) ?_)))
    rw [← hq]
    exact H
  refine one b 7 6 56 _ (by omega) (by omega) (by omega) (by omega) (by omega) ?_
  refine one _ 6 5 48 _ (by omega) (by omega) (by omega) (by omega) (by simp; omega) ?_
  refine one _ 5 4 40 _ (by omega) (by omega) (by omega) (by omega) (by simp; omega) ?_
  refine one _ 4 3 32 _ (by omega) (by omega) (by omega) (by omega) (by simp; omega) ?_
  refine one _ 3 2 24 _ (by omega) (by omega) (by omega) (by omega) (by simp; omega) ?_
  refine one _ 2 1 16 _ (by omega) (by omega) (by omega) (by omega) (by simp; omega) ?_
  refine one _ 1 0 8 _ (by omega) (by omega) (by omega) (by omega) (by simp; omega) ?_
  refine one _ 0 (-1) 0 _ (by omega) (by omega) (by omega) (by omega) (by simp; omega) ?_
  refine Ev.step (fun k => by rw [grapevineref5_All_l1]) ?_
  refine Ev.neg (by omega) ?_
  simpa [be8] using Ev.now _

theorem grapevineref5_All_ev (xs : List Int) (hx : xs.length ≤ 134217728) : Ev (fun k => grapevineref5_All k xs) (if someB xs = true then fnv fnv0 (be8s xs) else 0) := by
  unfold grapevineref5_All
  refine Ev.bind (b := (someB xs, be8s xs)) ?_ ?_
  · have key := Ev.count (F := fun k s j => grapevineref5_All_l0 xs k s.1 s.2 j) (r := (someB xs, be8s xs)) (fun j => (someB (xs.take j), be8s (xs.take j))) xs.length ?_ ?_
    · exact key
    · intro j hj r H
      refine Ev.step (fun k => by rw [grapevineref5_All_l0]) ?_
      refine Ev.pos (by omega) ?_
      refine Ev.bind (b := (someB (xs.take j) || (xs.getD j 0 != 0))) ?_ ?_
      · cases someB (xs.take j)
        · exact Ev.neg (by simp) (Ev.pos (by omega) (Ev.now _))
        · exact Ev.pos rfl (Ev.now _)
      · refine Ev.bind (grapevineref5_All_l1_ev xs j (by omega) _ (by rw [len_be8s, List.length_take]; omega)) ?_
        rw [i64w (by omega)]
        simp only [be8s_take xs hj, someB_take xs hj] at H
        simpa using H
    · refine Ev.step (fun k => by rw [grapevineref5_All_l0]) ?_
      refine Ev.neg (by omega) ?_
      simpa using Ev.now _
  · refine Ev.ite (fun h => ?_) (fun h => ?_)
    · rw [if_neg (by simpa using h)]; exact Ev.now _
    · rw [if_pos (by simpa using h)]
      unfold grapevineref5_One
      refine Ev.bind (Ev.bind (grapevineref5_Of_ev [be8s xs] (by simp [Short, maxLen]) (by simp [Short, maxLen, len_be8s]; omega)) (Ev.now _)) ?_
      simpa using Ev.now _

theorem fnv_a : fnv fnv0 [97] = 12638187200555641996 := by decide +kernel
theorem fnv_1 : (fnv fnv0 (be8s [0, 1]) != 0) = true := by decide +kernel

theorem awake_ev : Ev (fun k => grapevinelaw5_awake k) true := by
  unfold grapevinelaw5_awake
  refine Ev.bind (b := true) ?_ (Ev.now _)
  refine Ev.bind (digest_Of_ev [] (by simp [Short]) (by simp)) ?_
  refine Ev.pos rfl ?_
  refine Ev.bind (digest_Of_ev [[97]] (by simp [Short, maxLen]) (by simp [Short, maxLen])) ?_
  refine Ev.pos (by simpa using fnv_a) ?_
  refine Ev.bind (digest_All_ev [] (by simp)) ?_
  refine Ev.pos rfl ?_
  refine Ev.bind (digest_All_ev [0, 0] (by simp)) ?_
  refine Ev.pos rfl ?_
  refine Ev.bind (digest_All_ev [0, 1] (by simp)) ?_
  exact (Ev.now _).is fnv_1

theorem low_ev (x n : Int) (h1 : 1 ≤ n) (h2 : n < 9223372036854775808) : ∃ r, grapevinelaw0_Low x n = some r ∧ 0 ≤ r ∧ r < n := by
  have e : IntKind.u64.wrap n = n := u64w (by omega)
  have p : 0 ≤ IntKind.u64.wrap x := by rw [IntKind.wrap_u64]; omega
  unfold grapevinelaw0_Low
  rw [e, if_pos (by omega), Int.tmod_eq_emod_of_nonneg p]
  have a := Int.emod_nonneg (IntKind.u64.wrap x) (show n ≠ 0 by omega)
  have b := Int.emod_lt_of_pos (IntKind.u64.wrap x) (show 0 < n by omega)
  exact ⟨_, rfl, by rw [i64w (by omega)]; omega, by rw [i64w (by omega)]; omega⟩

/-! ## One byte another one -/
theorem fnvS_bits (h x : Int) : fnvS h x = ((BitVec.ofInt 64 h ^^^ BitVec.ofInt 64 x) * (BitVec.ofNat 64 1099511628211)).toNat := by
  have e : BitVec.ofInt 64 (IntKind.u64.wrap x) = BitVec.ofInt 64 x := by
    rw [IntKind.wrap_u64]
    apply BitVec.eq_of_toNat_eq
    rw [BitVec.toNat_ofInt, BitVec.toNat_ofInt]
    omega
  unfold fnvS
  rw [show Go.bits .xor .u64 h (IntKind.u64.wrap x) = IntKind.u64.wrap ((BitVec.ofInt 64 h ^^^ BitVec.ofInt 64 (IntKind.u64.wrap x)).toNat : Int) from rfl]
  rw [e, IntKind.wrap_u64, IntKind.wrap_u64, BitVec.toNat_mul]
  have := (BitVec.ofInt 64 h ^^^ BitVec.ofInt 64 x).isLt
  simp only [BitVec.toNat_ofNat]
  omega
theorem fnvS_range (h x : Int) : 0 ≤ fnvS h x ∧ fnvS h x < 18446744073709551616 := by
  unfold fnvS; rw [IntKind.wrap_u64]; omega
theorem ofInt_inj {a b : Int} (ha : 0 ≤ a ∧ a < 18446744073709551616) (hb : 0 ≤ b ∧ b < 18446744073709551616) (h : BitVec.ofInt 64 a = BitVec.ofInt 64 b) : a = b := by
  have := congrArg BitVec.toNat h
  rw [BitVec.toNat_ofInt, BitVec.toNat_ofInt] at this
  omega
theorem odd_inj {a b : BitVec 64} (h : a * (BitVec.ofNat 64 1099511628211) = b * (BitVec.ofNat 64 1099511628211)) : a = b := by
  have e : (BitVec.ofNat 64 1099511628211) * (BitVec.ofNat 64 14886173955864302971) = BitVec.ofNat 64 1 := by decide
  have := congrArg (· * (BitVec.ofNat 64 14886173955864302971)) h
  simpa [BitVec.mul_assoc, e] using this
theorem fnvS_injL {h h' x : Int} (hh : 0 ≤ h ∧ h < 18446744073709551616) (hh' : 0 ≤ h' ∧ h' < 18446744073709551616) (e : fnvS h x = fnvS h' x) : h = h' := by
  rw [fnvS_bits, fnvS_bits] at e
  have e := odd_inj (BitVec.eq_of_toNat_eq (Int.ofNat.inj e))
  have e := congrArg (· ^^^ BitVec.ofInt 64 x) e
  simp only [BitVec.xor_assoc, BitVec.xor_self, BitVec.xor_zero] at e
  exact ofInt_inj hh hh' e
theorem fnvS_injR {h x y : Int} (hx : 0 ≤ x ∧ x < 18446744073709551616) (hy : 0 ≤ y ∧ y < 18446744073709551616) (e : fnvS h x = fnvS h y) : x = y := by
  rw [fnvS_bits, fnvS_bits] at e
  have e := odd_inj (BitVec.eq_of_toNat_eq (Int.ofNat.inj e))
  have e := congrArg (BitVec.ofInt 64 h ^^^ ·) e
  simp only [← BitVec.xor_assoc, BitVec.xor_self, BitVec.zero_xor] at e
  exact ofInt_inj hx hy e
theorem fnv_inj {bs : List Int} : ∀ {h h' : Int}, (0 ≤ h ∧ h < 18446744073709551616) → (0 ≤ h' ∧ h' < 18446744073709551616) → fnv h bs = fnv h' bs → h = h' := by
  induction bs with
  | nil => intro h h' _ _ e; exact e
  | cons b bs ih => intro h h' hh hh' e; exact fnvS_injL hh hh' (ih (fnvS_range _ _) (fnvS_range _ _) e)
theorem fnv_set {bs : List Int} {h x : Int} {i : Nat} (hi : i < bs.length) (hx : 0 ≤ x ∧ x < 18446744073709551616) (hy : 0 ≤ bs.getD i 0 ∧ bs.getD i 0 < 18446744073709551616)
    (e : fnv h (bs.set i x) = fnv h bs) : x = bs.getD i 0 := by
  rw [set_getD bs x hi] at e
  conv at e => rhs; rw [parts_getD bs 0 hi]
  rw [fnv_app, fnv_app] at e
  exact fnvS_injR hx hy (fnv_inj (bs := bs.drop (i + 1)) (fnvS_range _ _) (fnvS_range _ _) e)
theorem xor8 {a b : Int} (ha : 0 ≤ a ∧ a < 256) (hb : 0 ≤ b ∧ b < 256) : (0 ≤ Go.bits .xor .u8 a b ∧ Go.bits .xor .u8 a b < 256) ∧ (Go.bits .xor .u8 a b = a → b = 0) := by
  obtain ⟨a, rfl⟩ := Int.eq_ofNat_of_zero_le ha.1
  obtain ⟨b, rfl⟩ := Int.eq_ofNat_of_zero_le hb.1
  rw [show Go.bits .xor .u8 (a : Int) (b : Int) = IntKind.u8.wrap ((BitVec.ofInt 8 a ^^^ BitVec.ofInt 8 b).toNat : Int) from rfl]
  rw [wrap_u8]
  have l := (BitVec.ofInt 8 (a : Int) ^^^ BitVec.ofInt 8 (b : Int)).isLt
  refine ⟨by omega, fun h => ?_⟩
  have e : (BitVec.ofInt 8 (a : Int) ^^^ BitVec.ofInt 8 (b : Int)) = BitVec.ofInt 8 (a : Int) := by
    apply BitVec.eq_of_toNat_eq
    rw [BitVec.toNat_ofInt]
    omega
  have e := congrArg (BitVec.ofInt 8 (a : Int) ^^^ ·) e
  simp only [← BitVec.xor_assoc, BitVec.xor_self, BitVec.zero_xor] at e
  have e := congrArg BitVec.toNat e
  rw [BitVec.toNat_ofInt] at e
  simp at e
  omega
end Go.Proofs.Ytanogihdhnhpaaa.Pure
