/- Digests, and records' bytes, in plain words. -/
import Derived.Test.YtajhihpaccggdaaDoorF0
import Derived.Test.YtajhihpaccggdaaDoorF1
import Derived.Test.YtajhihpaccggdaaDoorF3
import Derived.Test.YtajhihpaccggdaaDoorGgR
import Derived.Test.YtajhihpaccggdaaDoorGgQ
namespace Go.Proofs.YtajhihpaccggdaaDoor.Pure
open Go Go.Gg Go.Gp Gf
set_option linter.unusedVariables false

def fnvS (h x : Int) : Int := IntKind.u64.wrap ((Go.bits .xor .u64 h (IntKind.u64.wrap x)) * 1099511628211)
def fnv (h : Int) (bs : List Int) : Int := bs.foldl fnvS h
def fnv0 : Int := 14695981039346656037
def be8 (d : Int) : List Int := [IntKind.u8.wrap (shrK .u64 d 56), IntKind.u8.wrap (shrK .u64 d 48), IntKind.u8.wrap (shrK .u64 d 40), IntKind.u8.wrap (shrK .u64 d 32), IntKind.u8.wrap (shrK .u64 d 24), IntKind.u8.wrap (shrK .u64 d 16), IntKind.u8.wrap (shrK .u64 d 8), IntKind.u8.wrap (shrK .u64 d 0)]
def be8s (ds : List Int) : List Int := ds.flatMap be8
def someB (ds : List Int) : Bool := ds.any (· != 0)
abbrev Short {α : Type} (xs : List α) : Prop := xs.length ≤ maxLen
theorem short_lt {α : Type} {xs : List α} (h : Short xs) : xs.length < 9223372036854775808 := by
  simp only [Short, maxLen] at h; omega

theorem fnv_app (h : Int) (a b : List Int) : fnv h (a ++ b) = fnv (fnv h a) b := List.foldl_append

theorem digest_Of_l1_ev (xs : List (List Int)) (i : Int) (hy : Short (xs.getD i.toNat [])) (h : Int) :
    Ev (fun k => digest_Of_l1 xs i k h 0) (fnv h (xs.getD i.toNat [])) := by
  generalize hys : xs.getD i.toNat [] = ys at hy ⊢
  have hl := short_lt hy
  have key := Ev.count (F := fun k s j => digest_Of_l1 xs i k s j) (r := fnv h ys) (fun j => fnv h (ys.take j)) ys.length ?_ ?_
  · simpa [fnv] using key
  · intro j hj r H
    refine Ev.step (fun k => by rw [digest_Of_l1, hys]) ?_
    refine Ev.pos (by omega) (Ev.pos (by omega) ?_)
    rw [i64w (by omega)]
    simp only [take_getD ys 0 hj, fnv_app] at H
    exact H
  · refine Ev.step (fun k => by rw [digest_Of_l1, hys]) ?_
    refine Ev.neg (by omega) ?_
    simpa using Ev.now _

theorem digest_Of_ev (xs : List (List Int)) (hx : Short xs) (hy : ∀ y ∈ xs, Short y) : Ev (fun k => digest_Of k xs) (fnv fnv0 xs.flatten) := by
  have hl := short_lt hx
  unfold digest_Of
  refine Ev.bind (b := fnv fnv0 xs.flatten) ?_ (Ev.now _)
  have key := Ev.count (F := fun k s j => digest_Of_l0 xs k s j) (r := fnv fnv0 xs.flatten) (fun j => fnv fnv0 (xs.take j).flatten) xs.length ?_ ?_
  · exact key
  · intro j hj r H
    refine Ev.step (fun k => by rw [digest_Of_l0]) ?_
    refine Ev.pos (by omega) (Ev.pos (by omega) ?_)
    refine Ev.bind (digest_Of_l1_ev xs j (hy _ (getD_mem xs [] (by omega))) _) ?_
    rw [i64w (by omega)]
    simp only [take_getD xs [] hj, List.flatten_append, fnv_app] at H
    simpa using H
  · refine Ev.step (fun k => by rw [digest_Of_l0]) ?_
    refine Ev.neg (by omega) ?_
    simpa using Ev.now _

theorem grapevineref5_more_ev (ys : List Int) (hy : Short ys) (h : Int) : Ev (fun k => grapevineref5_more k h ys) (fnv h ys) := by
  have hl := short_lt hy
  unfold grapevineref5_more
  refine Ev.bind (b := fnv h ys) ?_ (Ev.now _)
  have key := Ev.count (F := fun k s j => grapevineref5_more_l0 ys k s j) (r := fnv h ys) (fun j => fnv h (ys.take j)) ys.length ?_ ?_
  · simpa [fnv] using key
  · intro j hj r H
    refine Ev.step (fun k => by rw [grapevineref5_more_l0]) ?_
    refine Ev.pos (by omega) (Ev.pos (by omega) ?_)
    rw [i64w (by omega)]
    simp only [take_getD ys 0 hj, fnv_app] at H
    exact H
  · refine Ev.step (fun k => by rw [grapevineref5_more_l0]) ?_
    refine Ev.neg (by omega) ?_
    simpa using Ev.now _

theorem grapevineref5_Of_ev (xs : List (List Int)) (hx : Short xs) (hy : ∀ y ∈ xs, Short y) : Ev (fun k => grapevineref5_Of k xs) (fnv fnv0 xs.flatten) := by
  have hl := short_lt hx
  unfold grapevineref5_Of
  refine Ev.bind (b := fnv fnv0 xs.flatten) ?_ (Ev.now _)
  have key := Ev.count (F := fun k s j => grapevineref5_Of_l0 xs k s j) (r := fnv fnv0 xs.flatten) (fun j => fnv fnv0 (xs.take j).flatten) xs.length ?_ ?_
  · exact key
  · intro j hj r H
    refine Ev.step (fun k => by rw [grapevineref5_Of_l0]) ?_
    refine Ev.pos (by omega) (Ev.pos (by omega) ?_)
    refine Ev.bind (grapevineref5_more_ev _ (hy _ (getD_mem xs [] (by omega))) _) ?_
    rw [i64w (by omega)]
    simp only [take_getD xs [] hj, List.flatten_append, fnv_app] at H
    simpa using H
  · refine Ev.step (fun k => by rw [grapevineref5_Of_l0]) ?_
    refine Ev.neg (by omega) ?_
    simpa using Ev.now _

theorem len_be8s (ds : List Int) : (be8s ds).length = 8 * ds.length := by
  induction ds with
  | nil => rfl
  | cons d ds ih => simp only [be8s, List.flatMap_cons, List.length_append, List.length_cons] at ih ⊢; rw [ih]; simp [be8]; omega
theorem be8s_take (ds : List Int) {i : Nat} (h : i < ds.length) : be8s (ds.take (i + 1)) = be8s (ds.take i) ++ be8 (ds.getD i 0) := by
  rw [take_getD ds 0 h]; simp [be8s]
theorem someB_take (ds : List Int) {i : Nat} (h : i < ds.length) : someB (ds.take (i + 1)) = (someB (ds.take i) || (ds.getD i 0 != 0)) := by
  rw [take_getD ds 0 h]; simp [someB]

theorem digest_All_l1_ev (xs : List Int) (i : Int) (b : List Int) (hb : b.length + 8 ≤ 1073741824) : Ev (fun k => digest_All_l1 xs i k b 56) (b ++ be8 (xs.getD i.toNat 0)) := by
  generalize hx : xs.getD i.toNat 0 = x
  have one : ∀ (c : List Int) (p q : Int) (r : List Int) (_ : 0 ≤ p) (_ : p ≤ 56) (_ : q = p - 8) (_ : c.length < 1073741824), Ev (fun k => digest_All_l1 xs i k (c ++ [IntKind.u8.wrap (shrK .u64 x p)]) q) r → Ev (fun k => digest_All_l1 xs i k c p) r := by
    intro c p q r h0 h1 hq hc H
    refine Ev.step (fun k => by rw [digest_All_l1, hx]) ?_
    refine Ev.pos h0 (Ev.pos h0 (Ev.pos (by simp; omega) ?_))
    rw [i64w (by omega), ← hq]
    exact H
  refine one b 56 48 _ (by omega) (by omega) (by omega) (by omega) ?_
  refine one _ 48 40 _ (by omega) (by omega) (by omega) (by simp; omega) ?_
  refine one _ 40 32 _ (by omega) (by omega) (by omega) (by simp; omega) ?_
  refine one _ 32 24 _ (by omega) (by omega) (by omega) (by simp; omega) ?_
  refine one _ 24 16 _ (by omega) (by omega) (by omega) (by simp; omega) ?_
  refine one _ 16 8 _ (by omega) (by omega) (by omega) (by simp; omega) ?_
  refine one _ 8 0 _ (by omega) (by omega) (by omega) (by simp; omega) ?_
  refine one _ 0 (-8) _ (by omega) (by omega) (by omega) (by simp; omega) ?_
  refine Ev.step (fun k => by rw [digest_All_l1]) ?_
  refine Ev.neg (by omega) ?_
  simpa [be8] using Ev.now _

theorem digest_All_ev (xs : List Int) (hx : xs.length ≤ 134217728) : Ev (fun k => digest_All k xs) (if someB xs = true then fnv fnv0 (be8s xs) else 0) := by
  unfold digest_All
  refine Ev.bind (b := (be8s xs, someB xs)) ?_ ?_
  · have key := Ev.count (F := fun k s j => digest_All_l0 xs k s.1 s.2 j) (r := (be8s xs, someB xs)) (fun j => (be8s (xs.take j), someB (xs.take j))) xs.length ?_ ?_
    · exact key
    · intro j hj r H
      refine Ev.step (fun k => by rw [digest_All_l0]) ?_
      refine Ev.pos (by omega) (Ev.pos (by omega) ?_)
      refine Ev.bind (b := (someB (xs.take j) || (xs.getD j 0 != 0))) ?_ ?_
      · cases someB (xs.take j)
        · exact Ev.neg (by simp) (Ev.now _)
        · exact Ev.pos rfl (Ev.now _)
      · refine Ev.bind (digest_All_l1_ev xs j _ (by rw [len_be8s, List.length_take]; omega)) ?_
        rw [i64w (by omega)]
        simp only [be8s_take xs hj, someB_take xs hj] at H
        simpa using H
    · refine Ev.step (fun k => by rw [digest_All_l0]) ?_
      refine Ev.neg (by omega) ?_
      simpa using Ev.now _
  · refine Ev.ite (fun h => ?_) (fun h => ?_)
    · rw [if_neg (by simpa using h)]; exact Ev.now _
    · rw [if_pos (by simpa using h)]
      refine Ev.bind (digest_Of_ev [be8s xs] (by simp [Short, maxLen]) (by simp [Short, maxLen, len_be8s]; omega)) ?_
      simpa using Ev.now _

theorem grapevineref5_All_l1_ev (xs : List Int) (i : Int) (hi : 0 ≤ i ∧ i < (xs.length : Int)) (b : List Int) (hb : b.length + 8 ≤ 1073741824) : Ev (fun k => grapevineref5_All_l1 xs i k b 7) (b ++ be8 (xs.getD i.toNat 0)) := by
  generalize hx : xs.getD i.toNat 0 = x
  have one : ∀ (c : List Int) (p q s : Int) (r : List Int) (_ : 0 ≤ p) (_ : p ≤ 7) (_ : q = p - 1) (_ : s = 8 * p) (_ : c.length < 1073741824), Ev (fun k => grapevineref5_All_l1 xs i k (c ++ [IntKind.u8.wrap (shrK .u64 x s)]) q) r → Ev (fun k => grapevineref5_All_l1 xs i k c p) r := by
    intro c p q s r h0 h1 hq hs hc H
    refine Ev.step (fun k => by rw [grapevineref5_All_l1, hx, i64w (x := 8 * p) (by omega), i64w (x := p - 1) (by omega), ← hs]) ?_
    refine Ev.pos h0 (Ev.pos hi (Ev.pos (by omega) (Ev.pos (by simp; omega) ?_)))
    rw [← hq]
    exact H
  refine one b 7 6 56 _ (by omega) (by omega) (by omega) (by omega) (by omega) ?_
  refine one _ 6 5 48 _ (by omega) (by omega) (by omega) (by omega) (by simp; omega) ?_
  refine one _ 5 4 40 _ (by omega) (by omega) (by omega) (by omega) (by simp; omega) ?_
  refine one _ 4 3 32 _ (by omega) (by omega) (by omega) (by omega) (by simp; omega) ?_
  refine one _ 3 2 24 _ (by omega) (by omega) (by omega) (by omega) (by simp; omega) ?_
  refine one _ 2 1 16 _ (by omega) (by omega) (by omega) (by omega) (by simp; omega) ?_
  refine one _ 1 0 8 _ (by omega) (by omega) (by omega) (by omega) (by simp; omega) ?_
  refine one _ 0 (-1) 0 _ (by omega) (by omega) (by omega) (by omega) (by simp; omega) ?_
  refine Ev.step (fun k => by rw [grapevineref5_All_l1]) ?_
  refine Ev.neg (by omega) ?_
  simpa [be8] using Ev.now _

theorem grapevineref5_All_ev (xs : List Int) (hx : xs.length ≤ 134217728) : Ev (fun k => grapevineref5_All k xs) (if someB xs = true then fnv fnv0 (be8s xs) else 0) := by
  unfold grapevineref5_All
  refine Ev.bind (b := (someB xs, be8s xs)) ?_ ?_
  · have key := Ev.count (F := fun k s j => grapevineref5_All_l0 xs k s.1 s.2 j) (r := (someB xs, be8s xs)) (fun j => (someB (xs.take j), be8s (xs.take j))) xs.length ?_ ?_
    · exact key
    · intro j hj r H
      refine Ev.step (fun k => by rw [grapevineref5_All_l0]) ?_
      refine Ev.pos (by omega) ?_
      refine Ev.bind (b := (someB (xs.take j) || (xs.getD j 0 != 0))) ?_ ?_
      · cases someB (xs.take j)
        · exact Ev.neg (by simp) (Ev.pos (by omega) (Ev.now _))
        · exact Ev.pos rfl (Ev.now _)
      · refine Ev.bind (grapevineref5_All_l1_ev xs j (by omega) _ (by rw [len_be8s, List.length_take]; omega)) ?_
        rw [i64w (by omega)]
        simp only [be8s_take xs hj, someB_take xs hj] at H
        simpa using H
    · refine Ev.step (fun k => by rw [grapevineref5_All_l0]) ?_
      refine Ev.neg (by omega) ?_
      simpa using Ev.now _
  · refine Ev.ite (fun h => ?_) (fun h => ?_)
    · rw [if_neg (by simpa using h)]; exact Ev.now _
    · rw [if_pos (by simpa using h)]
      unfold grapevineref5_One
      refine Ev.bind (Ev.bind (grapevineref5_Of_ev [be8s xs] (by simp [Short, maxLen]) (by simp [Short, maxLen, len_be8s]; omega)) (Ev.now _)) ?_
      simpa using Ev.now _

theorem low_ev (x n : Int) (h1 : 1 ≤ n) (h2 : n < 9223372036854775808) : ∃ r, grapevinelaw0_Low x n = some r ∧ 0 ≤ r ∧ r < n := by
  have e : IntKind.u64.wrap n = n := u64w (by omega)
  have p : 0 ≤ IntKind.u64.wrap x := by rw [IntKind.wrap_u64]; omega
  unfold grapevinelaw0_Low
  rw [e, if_pos (by omega), Int.tmod_eq_emod_of_nonneg p]
  have a := Int.emod_nonneg (IntKind.u64.wrap x) (show n ≠ 0 by omega)
  have b := Int.emod_lt_of_pos (IntKind.u64.wrap x) (show 0 < n by omega)
  exact ⟨_, rfl, by rw [i64w (by omega)]; omega, by rw [i64w (by omega)]; omega⟩

/-! ## One byte another one -/
def Text (s : ByteArray) : Prop := s.size ≤ 120 ∧ Lib.validD s.data.toList = true
instance (s : ByteArray) : Decidable (Text s) := by unfold Text; infer_instance
def Mayr (r : T36) : Prop := (0 ≤ r.f0 ∧ r.f0 < 8 ∧ 1 ≤ r.f1 ∧ r.f1 ≤ 1023) ∧ (0 ≤ r.f2 ∧ r.f2 ≤ 1099511627776 ∧ 0 ≤ r.f3 ∧ r.f3 ≤ 65535) ∧ Text r.f4
instance (r : T36) : Decidable (Mayr r) := by unfold Mayr; infer_instance
theorem stamp_some (s : T34) : stamp_May s = some (decide (0 ≤ s.f0 ∧ s.f0 ≤ 1099511627776 ∧ 0 ≤ s.f1 ∧ s.f1 ≤ 65535)) := by
  unfold stamp_May stamp_wall
  by_cases h : 0 ≤ s.f0 <;> by_cases h1 : s.f0 ≤ 1099511627776 <;> by_cases h2 : 0 ≤ s.f1 <;> simp [h, h1, h2]
theorem text_some (s : ByteArray) : tokens_May s = some (decide (Text s)) := by
  unfold tokens_May utf8_ValidString Text
  by_cases h : s.size ≤ 120
  · have h' : (s.size : Int) ≤ 120 := by omega
    rw [if_pos h', if_pos (by omega)]
    simp [h]
  · have h' : ¬ (s.size : Int) ≤ 120 := by omega
    rw [if_neg h']; simp [h]
theorem May_some (r : T36) : record_May r = some (decide (Mayr r)) := by
  unfold record_May Mayr
  simp only [stamp_some, text_some, Option.bind_some]
  by_cases h : 0 ≤ r.f0 <;> by_cases h1 : r.f0 < 8 <;> by_cases h2 : 1 ≤ r.f1 <;> by_cases h3 : r.f1 ≤ 1023 <;> by_cases h4 : 0 ≤ r.f2 ∧ r.f2 ≤ 1099511627776 ∧ 0 ≤ r.f3 ∧ r.f3 ≤ 65535 <;> simp [h, h1, h2, h3, h4]
theorem rstamp_some (s : T34) : grapevineref2_May s = some (decide (0 ≤ s.f0 ∧ s.f0 ≤ 1099511627776 ∧ 0 ≤ s.f1 ∧ s.f1 ≤ 65535)) := by
  unfold grapevineref2_May grapevineref2_in
  by_cases h : 0 ≤ s.f0 <;> by_cases h1 : s.f0 ≤ 1099511627776 <;> by_cases h2 : 0 ≤ s.f1 <;> simp [h, h1, h2]
theorem rtext_some (s : ByteArray) : grapevineref1_May s = some (decide (Text s)) := text_some s
theorem rMay_some (r : T36) : grapevineref4_May r = some (decide (Mayr r)) := by
  unfold grapevineref4_May Mayr grapevineref4_MayKey
  simp only [rstamp_some, rtext_some, Option.bind_some]
  by_cases h : 0 ≤ r.f0 <;> by_cases h1 : r.f0 < 8 <;> by_cases h2 : 1 ≤ r.f1 <;> by_cases h3 : r.f1 ≤ 1023 <;> by_cases h4 : 0 ≤ r.f2 ∧ r.f2 ≤ 1099511627776 ∧ 0 ≤ r.f3 ∧ r.f3 ≤ 65535 <;> simp [h, h1, h2, h3, h4]
theorem put_ev (n : Nat) : ∀ (s : Nat) (l : List Int), s ≤ 8 → l.length + s ≤ 1073741824 → Ev (fun k => record_put_l0 (n : Int) k l (s : Int)) (l ++ be n s)
  | 0, l, _, _ => Ev.step (g := fun _ => some l) (fun k => by rw [record_put_l0, if_neg (by omega)]) ((Ev.now _).is (by simp [be]))
  | s + 1, l, h, hl => by
    refine Ev.step (fun k => ?_) ((put_ev n s (l ++ [((n / 256 ^ s % 256 : Nat) : Int)]) (by omega) (by simp; omega)).is (by simp [be]))
    have e1 : IntKind.i64.wrap (((s + 1 : Nat) : Int) - 1) = (s : Int) := by rw [i64w (by omega)]; omega
    have e2 : IntKind.i64.wrap (8 * (s : Int)) = ((8 * s : Nat) : Int) := by rw [i64w (by omega)]; omega
    rw [record_put_l0, e1, e2, shr_i64 n s (by omega), byte_of, if_pos (by omega), if_pos (by omega), if_pos (by simp; omega)]
theorem rput_ev (n : Nat) : ∀ (s : Nat) (l : List Int), s ≤ 8 → l.length + s ≤ 1073741824 → Ev (fun k => grapevineref4_Num_l0 (n : Int) k l ((s : Int) - 1)) (l ++ be n s)
  | 0, l, _, _ => Ev.step (g := fun _ => some l) (fun k => by rw [grapevineref4_Num_l0, if_neg (by omega)]) ((Ev.now _).is (by simp [be]))
  | s + 1, l, h, hl => by
    refine Ev.step (fun k => ?_) ((rput_ev n s (l ++ [((n / 256 ^ s % 256 : Nat) : Int)]) (by omega) (by simp; omega)).is (by simp [be]))
    have e1 : (((s + 1 : Nat) : Int) - 1) = (s : Int) := by omega
    have e2 : IntKind.i64.wrap (8 * (s : Int)) = ((8 * s : Nat) : Int) := by rw [i64w (by omega)]; omega
    have e3 : IntKind.i64.wrap ((s : Int) - 1) = (s : Int) - 1 := i64w (by omega)
    rw [grapevineref4_Num_l0, e1, e2, e3, shr_i64 n s (by omega), byte_of, if_pos (by omega), if_pos (by omega), if_pos (by simp; omega)]
theorem Put_ev {x : Int} (hx : 0 ≤ x) (s : Nat) (l : List Int) (h : s ≤ 8) (hl : l.length + s ≤ 1073741824) : Ev (fun k => record_put k l x (s : Int)) (l ++ be x.toNat s) := by
  obtain ⟨n, rfl⟩ : ∃ n : Nat, x = n := ⟨x.toNat, by omega⟩
  exact Ev.bind (put_ev n s l h hl) (Ev.now _)
theorem rPut_ev {x : Int} (hx : 0 ≤ x) (s : Nat) (l : List Int) (h : s ≤ 8) (hl : l.length + s ≤ 1073741824) : Ev (fun k => grapevineref4_Num k l x (s : Int)) (l ++ be x.toNat s) := by
  obtain ⟨n, rfl⟩ : ∃ n : Nat, x = n := ⟨x.toNat, by omega⟩
  unfold grapevineref4_Num
  rw [i64w (by omega)]
  exact Ev.bind (rput_ev n s l h hl) (Ev.now _)
def head (r : T36) : List Int := be r.f0.toNat 1 ++ be r.f1.toNat 2 ++ be r.f2.toNat 6 ++ be r.f3.toNat 2 ++ be r.f4.size 1
def lay (r : T36) : List Int := head r ++ bytesOf r.f4
theorem len_head (r : T36) : (head r).length = 12 := by simp [head, len_be]
theorem len_lay (r : T36) : (lay r).length = 12 + r.f4.size := by simp [lay, len_head, len_bytesOf]
theorem lay_bytes (r : T36) : Bytes (lay r) :=
  (((((be_bytes _ _).app (be_bytes _ _)).app (be_bytes _ _)).app (be_bytes _ _)).app (be_bytes _ _)).app (bytesOf_bytes _)
def laid (r : T36) : List Int × Int := if Mayr r then (lay r, 0) else ([], 2)
theorem Lay_ev (r : T36) : Ev (fun k => record_Lay k r) (laid r) := by
  unfold record_Lay laid
  simp only [May_some, Option.bind_some]
  by_cases h : Mayr r
  · simp only [h, decide_true, Bool.not_true, Bool.false_eq_true, if_false, if_true]
    obtain ⟨⟨a0, _, a1, _⟩, ⟨a2, _, a3, _⟩, a4, _⟩ := h
    refine Ev.bind (Put_ev a0 1 [] (by omega) (by simp)) (Ev.bind (Put_ev (by omega) 2 _ (by omega) (by simp [len_be])) (Ev.bind (Put_ev a2 6 _ (by omega) (by simp [len_be])) (Ev.bind (Put_ev a3 2 _ (by omega) (by simp [len_be])) (Ev.bind (Put_ev (by omega) 1 _ (by omega) (by simp [len_be])) (Ev.pos ?_ ((Ev.now _).is ?_))))))
    · simp [len_be, len_bytesOf]; omega
    · simp [lay, head]
  · simp only [h, decide_false, Bool.not_false, if_true, if_false]
    exact Ev.now _
theorem rLay_ev (r : T36) : Ev (fun k => grapevineref4_Lay k r) (laid r) := by
  unfold grapevineref4_Lay laid
  simp only [rMay_some, Option.bind_some]
  by_cases h : Mayr r
  · simp only [h, decide_true, Bool.not_true, Bool.false_eq_true, if_false, if_true]
    obtain ⟨⟨a0, _, a1, _⟩, ⟨a2, _, a3, _⟩, a4, _⟩ := h
    refine Ev.bind (rPut_ev a0 1 [] (by omega) (by simp)) (Ev.bind (rPut_ev (by omega) 2 _ (by omega) (by simp [len_be])) (Ev.bind (rPut_ev a2 6 _ (by omega) (by simp [len_be])) (Ev.bind (rPut_ev a3 2 _ (by omega) (by simp [len_be])) (Ev.bind (rPut_ev (by omega) 1 _ (by omega) (by simp [len_be])) (Ev.pos ?_ ((Ev.now _).is ?_))))))
    · simp [len_be, len_bytesOf]; omega
    · simp [lay, head]
  · simp only [h, decide_false, Bool.not_false, if_true, if_false]
    exact Ev.now _
theorem Great_ev (l : List T36) (m : Int) (hm : 0 ≤ m ∧ m < 1000) : ∃ r, Ev (fun k => grapevinelaw0_GreatRecords k l m) r ∧ (r = false → (l.length : Int) ≤ m) := by
  by_cases h : (l.length : Int) ≤ m
  case neg =>
    refine ⟨true, ?_, fun e => by cases e⟩
    refine Ev.bind (b := Sum.inr ()) (Ev.step (g := fun _ => some (Sum.inr ())) (fun k => ?_) (Ev.now _)) ((Ev.now _).is (decide_eq_true (by omega)))
    rw [grapevinelaw0_GreatRecords_l0]
    by_cases h0 : (0 : Int) < (l.length : Int)
    · rw [if_pos h0, decide_eq_false h]; rfl
    · rw [if_neg h0]; rfl
  · obtain ⟨r, hr, hE⟩ := Ev.loop (F := fun k (s : Int) => grapevinelaw0_GreatRecords_l0 l m k s) (fun s n => 0 ≤ s ∧ s + n = l.length) (fun r => r = Sum.inl true ∨ r = Sum.inr ()) (fun s n hI => by
      obtain ⟨h0, hn⟩ := hI
      by_cases h1 : s < (l.length : Int)
      · by_cases h2 : (((l.getD s.toNat z36).f4).size : Int) > 300
        · refine .inl ⟨Sum.inl true, .inl rfl, Ev.step (g := fun _ => some (Sum.inl true)) (fun k => ?_) (Ev.now _)⟩
          rw [grapevinelaw0_GreatRecords_l0, if_pos h1, decide_eq_true h]
          simp only [Option.bind_some, if_true]
          rw [if_pos ⟨h0, h1⟩, if_pos h2]
        · refine .inr ⟨s + 1, n - 1, by omega, ⟨by omega, by omega⟩, fun r H => Ev.step (fun k => ?_) H⟩
          rw [grapevinelaw0_GreatRecords_l0, if_pos h1, decide_eq_true h]
          simp only [Option.bind_some, if_true]
          rw [if_pos ⟨h0, h1⟩, if_neg h2, i64w (by omega)]
      · refine .inl ⟨Sum.inr (), .inr rfl, Ev.step (g := fun _ => some (Sum.inr ())) (fun k => ?_) (Ev.now _)⟩
        rw [grapevinelaw0_GreatRecords_l0, if_neg h1]; rfl) 0 l.length ⟨by omega, by omega⟩
    rcases hr with rfl | rfl
    · exact ⟨true, Ev.bind hE (Ev.now _), fun e => by cases e⟩
    · exact ⟨false, Ev.bind hE ((Ev.now _).is (decide_eq_false (by omega))), fun _ => h⟩
end Go.Proofs.YtajhihpaccggdaaDoor.Pure
