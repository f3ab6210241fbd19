/- Digests and frames in plain words (out of the texts of an elder seat). -/
import Derived.Test.YtfocilpnbiciaaaDoorF0
import Derived.Test.YtfocilpnbiciaaaDoorPBytes
import Derived.Laws.Strings
namespace Go.Proofs.YtfocilpnbiciaaaDoor.Pure
open Go Go.Gg Go.Gp Gf
set_option linter.unusedVariables false
set_option linter.unusedSimpArgs false
def fnvS (h x : Int) : Int := IntKind.u64.wrap ((Go.bits .xor .u64 h (IntKind.u64.wrap x)) * 1099511628211)
def fnv (h : Int) (bs : List Int) : Int := bs.foldl fnvS h
def fnv0 : Int := 14695981039346656037
def be8 (d : Int) : List Int := [IntKind.u8.wrap (shrK .u64 d 56), IntKind.u8.wrap (shrK .u64 d 48), IntKind.u8.wrap (shrK .u64 d 40), IntKind.u8.wrap (shrK .u64 d 32), IntKind.u8.wrap (shrK .u64 d 24), IntKind.u8.wrap (shrK .u64 d 16), IntKind.u8.wrap (shrK .u64 d 8), IntKind.u8.wrap (shrK .u64 d 0)]
def be8s (ds : List Int) : List Int := ds.flatMap be8
def someB (ds : List Int) : Bool := ds.any (· != 0)
abbrev Short {α : Type} (xs : List α) : Prop := xs.length ≤ maxLen
theorem short_lt {α : Type} {xs : List α} (h : Short xs) : xs.length < 9223372036854775808 := by
  simp only [Short, maxLen] at h; omega
theorem fnv_app (h : Int) (a b : List Int) : fnv h (a ++ b) = fnv (fnv h a) b := List.foldl_append
theorem digest_Of_l1_ev (xs : List (List Int)) (i : Int) (hy : Short (xs.getD i.toNat [])) (h : Int) :
    Ev (fun k => digest_Of_l1 xs i k h 0) (fnv h (xs.getD i.toNat [])) := by
  generalize hys : xs.getD i.toNat [] = ys at hy ⊢
  have hl := short_lt hy
  have key := Ev.count (F := fun k s j => digest_Of_l1 xs i k s j) (r := fnv h ys) (fun j => fnv h (ys.take j)) ys.length ?_ ?_
  · simpa [fnv] using key
  · intro j hj r H
    refine Ev.step (fun k => by rw [digest_Of_l1, hys]) ?_
    refine Ev.pos (by omega) (Ev.pos (by omega) ?_)
    rw [i64w (by omega)]
    simp only [take_getD ys 0 hj, fnv_app] at H
    exact H
  · refine Ev.step (fun k => by rw [digest_Of_l1, hys]) ?_
    refine Ev.neg (by omega) ?_
    simpa using Ev.now _
theorem digest_Of_ev (xs : List (List Int)) (hx : Short xs) (hy : ∀ y ∈ xs, Short y) : Ev (fun k => digest_Of k xs) (fnv fnv0 xs.flatten) := by
  have hl := short_lt hx
  unfold digest_Of
  refine Ev.bind (b := fnv fnv0 xs.flatten) ?_ (Ev.now _)
  have key := Ev.count (F := fun k s j => digest_Of_l0 xs k s j) (r := fnv fnv0 xs.flatten) (fun j => fnv fnv0 (xs.take j).flatten) xs.length ?_ ?_
  · exact key
  · intro j hj r H
    refine Ev.step (fun k => by rw [digest_Of_l0]) ?_
    refine Ev.pos (by omega) (Ev.pos (by omega) ?_)
    refine Ev.bind (digest_Of_l1_ev xs j (hy _ (getD_mem xs [] (by omega))) _) ?_
    rw [i64w (by omega)]
    simp only [take_getD xs [] hj, List.flatten_append, fnv_app] at H
    simpa using H
  · refine Ev.step (fun k => by rw [digest_Of_l0]) ?_
    refine Ev.neg (by omega) ?_
    simpa using Ev.now _
theorem fnvS_bits (h x : Int) : fnvS h x = ((BitVec.ofInt 64 h ^^^ BitVec.ofInt 64 x) * (BitVec.ofNat 64 1099511628211)).toNat := by
  have e : BitVec.ofInt 64 (IntKind.u64.wrap x) = BitVec.ofInt 64 x := by
    rw [IntKind.wrap_u64]
    apply BitVec.eq_of_toNat_eq
    rw [BitVec.toNat_ofInt, BitVec.toNat_ofInt]
    omega
  unfold fnvS
  rw [show Go.bits .xor .u64 h (IntKind.u64.wrap x) = IntKind.u64.wrap ((BitVec.ofInt 64 h ^^^ BitVec.ofInt 64 (IntKind.u64.wrap x)).toNat : Int) from rfl]
  rw [e, IntKind.wrap_u64, IntKind.wrap_u64, BitVec.toNat_mul]
  have := (BitVec.ofInt 64 h ^^^ BitVec.ofInt 64 x).isLt
  simp only [BitVec.toNat_ofNat]
  omega
theorem fnvS_range (h x : Int) : 0 ≤ fnvS h x ∧ fnvS h x < 18446744073709551616 := by
  unfold fnvS; rw [IntKind.wrap_u64]; omega
theorem ofInt_inj {a b : Int} (ha : 0 ≤ a ∧ a < 18446744073709551616) (hb : 0 ≤ b ∧ b < 18446744073709551616) (h : BitVec.ofInt 64 a = BitVec.ofInt 64 b) : a = b := by
  have := congrArg BitVec.toNat h
  rw [BitVec.toNat_ofInt, BitVec.toNat_ofInt] at this
  omega
theorem odd_inj {a b : BitVec 64} (h : a * (BitVec.ofNat 64 1099511628211) = b * (BitVec.ofNat 64 1099511628211)) : a = b := by
  have e : (BitVec.ofNat 64 1099511628211) * (BitVec.ofNat 64 14886173955864302971) = BitVec.ofNat 64 1 := by decide
  have := congrArg (· * (BitVec.ofNat 64 14886173955864302971)) h
  simpa [BitVec.mul_assoc, e] using this
theorem fnvS_injL {h h' x : Int} (hh : 0 ≤ h ∧ h < 18446744073709551616) (hh' : 0 ≤ h' ∧ h' < 18446744073709551616) (e : fnvS h x = fnvS h' x) : h = h' := by
  rw [fnvS_bits, fnvS_bits] at e
  have e := odd_inj (BitVec.eq_of_toNat_eq (Int.ofNat.inj e))
  have e := congrArg (· ^^^ BitVec.ofInt 64 x) e
  simp only [BitVec.xor_assoc, BitVec.xor_self, BitVec.xor_zero] at e
  exact ofInt_inj hh hh' e
theorem fnvS_injR {h x y : Int} (hx : 0 ≤ x ∧ x < 18446744073709551616) (hy : 0 ≤ y ∧ y < 18446744073709551616) (e : fnvS h x = fnvS h y) : x = y := by
  rw [fnvS_bits, fnvS_bits] at e
  have e := odd_inj (BitVec.eq_of_toNat_eq (Int.ofNat.inj e))
  have e := congrArg (BitVec.ofInt 64 h ^^^ ·) e
  simp only [← BitVec.xor_assoc, BitVec.xor_self, BitVec.zero_xor] at e
  exact ofInt_inj hx hy e
theorem fnv_inj {bs : List Int} : ∀ {h h' : Int}, (0 ≤ h ∧ h < 18446744073709551616) → (0 ≤ h' ∧ h' < 18446744073709551616) → fnv h bs = fnv h' bs → h = h' := by
  induction bs with
  | nil => intro h h' _ _ e; exact e
  | cons b bs ih => intro h h' hh hh' e; exact fnvS_injL hh hh' (ih (fnvS_range _ _) (fnvS_range _ _) e)
theorem fnv_set {bs : List Int} {h x : Int} {i : Nat} (hi : i < bs.length) (hx : 0 ≤ x ∧ x < 18446744073709551616) (hy : 0 ≤ bs.getD i 0 ∧ bs.getD i 0 < 18446744073709551616)
    (e : fnv h (bs.set i x) = fnv h bs) : x = bs.getD i 0 := by
  rw [set_getD bs x hi] at e
  conv at e => rhs; rw [parts_getD bs 0 hi]
  rw [fnv_app, fnv_app] at e
  exact fnvS_injR hx hy (fnv_inj (bs := bs.drop (i + 1)) (fnvS_range _ _) (fnvS_range _ _) e)
theorem xor8 {a b : Int} (ha : 0 ≤ a ∧ a < 256) (hb : 0 ≤ b ∧ b < 256) : (0 ≤ Go.bits .xor .u8 a b ∧ Go.bits .xor .u8 a b < 256) ∧ (Go.bits .xor .u8 a b = a → b = 0) := by
  obtain ⟨a, rfl⟩ := Int.eq_ofNat_of_zero_le ha.1
  obtain ⟨b, rfl⟩ := Int.eq_ofNat_of_zero_le hb.1
  rw [show Go.bits .xor .u8 (a : Int) (b : Int) = IntKind.u8.wrap ((BitVec.ofInt 8 a ^^^ BitVec.ofInt 8 b).toNat : Int) from rfl]
  rw [wrap_u8]
  have l := (BitVec.ofInt 8 (a : Int) ^^^ BitVec.ofInt 8 (b : Int)).isLt
  refine ⟨by omega, fun h => ?_⟩
  have e : (BitVec.ofInt 8 (a : Int) ^^^ BitVec.ofInt 8 (b : Int)) = BitVec.ofInt 8 (a : Int) := by
    apply BitVec.eq_of_toNat_eq
    rw [BitVec.toNat_ofInt]
    omega
  have e := congrArg (BitVec.ofInt 8 (a : Int) ^^^ ·) e
  simp only [← BitVec.xor_assoc, BitVec.xor_self, BitVec.zero_xor] at e
  have e := congrArg BitVec.toNat e
  rw [BitVec.toNat_ofInt] at e
  simp at e
  omega
theorem be8_bytes (d : Int) : Bytes (be8 d) := by
  intro x hx
  simp only [be8, List.mem_cons, List.not_mem_nil, or_false] at hx
  rcases hx with rfl | rfl | rfl | rfl | rfl | rfl | rfl | rfl <;> (rw [wrap_u8]; omega)
theorem len_be8 (d : Int) : (be8 d).length = 8 := rfl
theorem shr64 (x : Int) (n : Nat) (h : n ≤ 64) (hx : 0 ≤ x) : shrK .u64 x (n : Int) = x / 2 ^ n := by
  unfold shrK
  rw [show min ((n : Int)).toNat IntKind.u64.bits = n by simp [IntKind.bits]; omega]
  exact Int.fdiv_eq_ediv_of_nonneg _ (by exact_mod_cast Nat.zero_le _)
theorem be8_inj {a b : Int} (ha : 0 ≤ a ∧ a < 18446744073709551616) (hb : 0 ≤ b ∧ b < 18446744073709551616) (h : be8 a = be8 b) : a = b := by
  have s : ∀ (x : Int) (n : Nat), n ≤ 64 → 0 ≤ x → shrK .u64 x (n : Int) = x / 2 ^ n := shr64
  have e56 : shrK .u64 a 56 = a / 2 ^ 56 := s a 56 (by omega) ha.1; have f56 : shrK .u64 b 56 = b / 2 ^ 56 := s b 56 (by omega) hb.1
  have e48 : shrK .u64 a 48 = a / 2 ^ 48 := s a 48 (by omega) ha.1; have f48 : shrK .u64 b 48 = b / 2 ^ 48 := s b 48 (by omega) hb.1
  have e40 : shrK .u64 a 40 = a / 2 ^ 40 := s a 40 (by omega) ha.1; have f40 : shrK .u64 b 40 = b / 2 ^ 40 := s b 40 (by omega) hb.1
  have e32 : shrK .u64 a 32 = a / 2 ^ 32 := s a 32 (by omega) ha.1; have f32 : shrK .u64 b 32 = b / 2 ^ 32 := s b 32 (by omega) hb.1
  have e24 : shrK .u64 a 24 = a / 2 ^ 24 := s a 24 (by omega) ha.1; have f24 : shrK .u64 b 24 = b / 2 ^ 24 := s b 24 (by omega) hb.1
  have e16 : shrK .u64 a 16 = a / 2 ^ 16 := s a 16 (by omega) ha.1; have f16 : shrK .u64 b 16 = b / 2 ^ 16 := s b 16 (by omega) hb.1
  have e8 : shrK .u64 a 8 = a / 2 ^ 8 := s a 8 (by omega) ha.1; have f8 : shrK .u64 b 8 = b / 2 ^ 8 := s b 8 (by omega) hb.1
  have e0 : shrK .u64 a 0 = a / 2 ^ 0 := s a 0 (by omega) ha.1; have f0 : shrK .u64 b 0 = b / 2 ^ 0 := s b 0 (by omega) hb.1
  simp only [be8, List.cons.injEq, and_true, wrap_u8] at h
  obtain ⟨h7, h6, h5, h4, h3, h2, h1, h0⟩ := h
  rw [e56, f56] at h7; rw [e48, f48] at h6; rw [e40, f40] at h5; rw [e32, f32] at h4; rw [e24, f24] at h3; rw [e16, f16] at h2; rw [e8, f8] at h1; rw [e0, f0] at h0
  omega
theorem clone_some (l : List Int) (h : l.length ≤ 1073741824) : slices_Clone_byte_byte l = some l := if_pos h
theorem strOfNums_inj {a b : List Int} (ha : Bytes a) (hb : Bytes b) : ((strOfNums a).toList == (strOfNums b).toList) = decide (a = b) := by
  by_cases e : a = b
  · subst e; simp
  · have : ¬ (strOfNums a).toList = (strOfNums b).toList := by
      intro h
      apply e
      have h' : (a.map fun n => UInt8.ofNat n.toNat) = (b.map fun n => UInt8.ofNat n.toNat) := by
        have h1 : ∀ l : List Int, (strOfNums l).toList = l.map fun n => UInt8.ofNat n.toNat := fun l => by
          rw [ByteArray.toList_eq]; simp [strOfNums]
        rwa [h1, h1] at h
      have hl : a.length = b.length := by simpa using congrArg List.length h'
      apply List.ext_getElem hl
      intro i h1 h2
      have := congrArg (fun l => l[i]?) h'
      simp only [List.getElem?_map, List.getElem?_eq_getElem h1, List.getElem?_eq_getElem h2, Option.map_some, Option.some.injEq] at this
      have := congrArg UInt8.toNat this
      simp only [UInt8.toNat_ofNat'] at this
      have p := ha _ (List.getElem_mem h1)
      have q := hb _ (List.getElem_mem h2)
      omega
    simp [e, this]
def headOf (kind n : Int) : List Int := [71, kind % 256, n / 256 % 256, n % 256]
def seal8 (l : List Int) : List Int := l ++ be8 (fnv fnv0 l)
def frameOf (kind : Int) (body : List Int) : List Int := seal8 (headOf kind (body.length : Int) ++ body)
theorem len_seal8 (l : List Int) : (seal8 l).length = l.length + 8 := by simp [seal8, len_be8]
theorem len_frameOf (kind : Int) (body : List Int) : (frameOf kind body).length = body.length + 12 := by simp [frameOf, len_seal8, headOf]
theorem headOf_bytes (kind n : Int) : Bytes (headOf kind n) := by
  intro x hx
  simp only [headOf, List.mem_cons, List.not_mem_nil, or_false] at hx
  rcases hx with rfl | rfl | rfl | rfl <;> omega
theorem frameOf_bytes (kind : Int) {body : List Int} (hb : Bytes body) : Bytes (frameOf kind body) := ((headOf_bytes _ _).app hb).app (be8_bytes _)
theorem fnv_range (l : List Int) : 0 ≤ fnv fnv0 l ∧ fnv fnv0 l < 18446744073709551616 := by
  have : ∀ (l : List Int) (h : Int), (0 ≤ h ∧ h < 18446744073709551616) → 0 ≤ fnv h l ∧ fnv h l < 18446744073709551616 := by
    intro l
    induction l with
    | nil => intro h hh; exact hh
    | cons x l ih => intro h _; exact ih _ (fnvS_range _ _)
  exact this l fnv0 (by decide)
theorem seal_l0_ev (d : Int) (b : List Int) (hb : b.length + 8 ≤ 1073741824) : Ev (fun k => frame_seal_l0 d k b 56) (b ++ be8 d) := by
  have one : ∀ (c : List Int) (p q : Int) (r : List Int) (_ : 0 ≤ p) (_ : p ≤ 56) (_ : q = p - 8) (_ : c.length < 1073741824), Ev (fun k => frame_seal_l0 d k (c ++ [IntKind.u8.wrap (shrK .u64 d p)]) q) r → Ev (fun k => frame_seal_l0 d k c p) r := by
    intro c p q r h0 h1 hq hc H
    refine Ev.step (fun k => by rw [frame_seal_l0]) ?_
    refine Ev.pos h0 (Ev.pos h0 (Ev.pos (by simp; omega) ?_))
    rw [i64w (by omega), ← hq]
    exact H
  refine one b 56 48 _ (by omega) (by omega) (by omega) (by omega) ?_
  refine one _ 48 40 _ (by omega) (by omega) (by omega) (by simp; omega) ?_
  refine one _ 40 32 _ (by omega) (by omega) (by omega) (by simp; omega) ?_
  refine one _ 32 24 _ (by omega) (by omega) (by omega) (by simp; omega) ?_
  refine one _ 24 16 _ (by omega) (by omega) (by omega) (by simp; omega) ?_
  refine one _ 16 8 _ (by omega) (by omega) (by omega) (by simp; omega) ?_
  refine one _ 8 0 _ (by omega) (by omega) (by omega) (by simp; omega) ?_
  refine one _ 0 (-8) _ (by omega) (by omega) (by omega) (by simp; omega) ?_
  refine Ev.step (fun k => by rw [frame_seal_l0]) ?_
  refine Ev.neg (by omega) ?_
  simpa [be8] using Ev.now _
theorem frame_seal_ev (l : List Int) (hl : l.length + 8 ≤ 1073741824) : Ev (fun k => frame_seal k l) (seal8 l) := by
  unfold frame_seal
  refine Ev.bind (digest_Of_ev [l] (by simp [Short, maxLen]) (by simp [Short, maxLen]; omega)) ?_
  exact Ev.bind (seal_l0_ev _ l hl) ((Ev.now _).is (by simp [seal8]))
def layS (kind : Int) (body : List Int) : List Int × Int := if kind < 1 ∨ kind > 255 ∨ (body.length : Int) > 65535 then ([], 2) else (frameOf kind body, 0)
theorem shrI (x : Int) (n : Nat) (h : n ≤ 64) (hx : 0 ≤ x) : shrK .i64 x (n : Int) = x / 2 ^ n := by
  unfold shrK
  rw [show min ((n : Int)).toNat IntKind.i64.bits = n by simp [IntKind.bits]; omega]
  exact Int.fdiv_eq_ediv_of_nonneg _ (by exact_mod_cast Nat.zero_le _)
theorem frame_Lay_ev (kind : Int) (body : List Int) : Ev (fun k => frame_Lay k kind body) (layS kind body) := by
  unfold frame_Lay layS
  refine Ev.bind (b := decide (kind < 1 ∨ kind > 255 ∨ (body.length : Int) > 65535)) ?_ ?_
  · refine Ev.ite (fun h => (Ev.now _).is (by simp [h])) (fun h => ?_)
    refine Ev.ite (fun h' => (Ev.now _).is (by simp [h'])) (fun h' => (Ev.now _).is (by simp [h, h']))
  · refine Ev.ite (fun h => ?_) (fun h => ?_)
    · rw [if_pos (by simpa using h)]; exact Ev.now _
    · have h : ¬ (kind < 1 ∨ kind > 255 ∨ (body.length : Int) > 65535) := by simpa using h
      rw [if_neg h]
      have e8 : shrK .i64 (body.length : Int) 8 = (body.length : Int) / 256 := shrI _ 8 (by omega) (by omega)
      have e : [71, IntKind.u8.wrap kind, IntKind.u8.wrap (shrK .i64 (body.length : Int) 8), IntKind.u8.wrap (body.length : Int)] = headOf kind (body.length : Int) := by
        simp only [headOf, wrap_u8, e8]
      simp only [e]
      refine Ev.pos (by simp [headOf]; omega) ?_
      refine Ev.name fun v hv => ?_
      subst hv
      exact Ev.bind (frame_seal_ev _ (by simp [headOf]; omega)) (Ev.now _)
def nextAt (x : List Int) : Option (Int × List Int × Nat) :=
  if x.length < 12 then none
  else if x.getD 0 0 = 71 ∧ ¬ x.getD 1 0 = 0 ∧ (x.getD 2 0 * 256 + x.getD 3 0).toNat + 12 ≤ x.length then
    if be8 (fnv fnv0 (x.take ((x.getD 2 0 * 256 + x.getD 3 0).toNat + 4))) = (x.drop ((x.getD 2 0 * 256 + x.getD 3 0).toNat + 4)).take 8 then
      some (x.getD 1 0, (x.take ((x.getD 2 0 * 256 + x.getD 3 0).toNat + 4)).drop 4, (x.getD 2 0 * 256 + x.getD 3 0).toNat + 12)
    else none
  else none
def nextS (l : List Int) (at_ : Int) : Int × List Int × Int × Bool :=
  if 0 ≤ at_ ∧ at_ ≤ (l.length : Int) then match nextAt (l.drop at_.toNat) with
    | some (kind, body, n) => (kind, body, at_ + n, true)
    | none => (0, [], 0, false)
  else (0, [], 0, false)
theorem shl8 (x : Int) (h : 0 ≤ x ∧ x < 256) : shlK .i64 x 8 = x * 256 := by
  unfold shlK
  rw [show min (8 : Int).toNat IntKind.i64.bits = 8 by simp [IntKind.bits], show (2 : Int) ^ 8 = 256 by decide, i64w (by omega)]
theorem Next_l0_ev (d : Int) (v : List Int) (hv : v.length = 8) :
    Ev (fun k => frame_Next_l0 d v 8 k 0) (if be8 d = v then Sum.inr () else Sum.inl (0, [], 0, false)) := by
  obtain ⟨r, hr, hE⟩ := Ev.loop (F := fun k (s : Int) => frame_Next_l0 d v 8 k s) (fun s n => 0 ≤ s ∧ s + n = 8 ∧ ∀ i, i < s.toNat → (be8 d).getD i 0 = v.getD i 0) (fun r => r = if be8 d = v then Sum.inr () else Sum.inl (0, [], 0, false)) (fun s n hI => by
    obtain ⟨h0, hn, hall⟩ := hI
    by_cases h1 : s < 8
    · have e : IntKind.u8.wrap (shrK .u64 d (56 - 8 * s)) = (be8 d).getD s.toNat 0 := by
        have : s = 0 ∨ s = 1 ∨ s = 2 ∨ s = 3 ∨ s = 4 ∨ s = 5 ∨ s = 6 ∨ s = 7 := by omega
        rcases this with rfl | rfl | rfl | rfl | rfl | rfl | rfl | rfl <;> rfl
      by_cases h2 : v.getD s.toNat 0 = (be8 d).getD s.toNat 0
      · refine .inr ⟨s + 1, n - 1, by omega, ⟨by omega, by omega, fun i hi => ?_⟩, fun r H => ?_⟩
        · by_cases e : i = s.toNat
          · rw [e]; exact h2.symm
          · exact hall i (by omega)
        · refine Ev.step (fun k => by rw [frame_Next_l0, i64w (x := 8 * s) (by omega), i64w (x := 56 - 8 * s) (by omega), i64w (x := s + 1) (by omega), e]) ?_
          exact Ev.pos h1 (Ev.pos (by omega) (Ev.pos (by omega) (Ev.neg (fun h => h h2) H)))
      · refine .inl ⟨Sum.inl (0, [], 0, false), ?_, ?_⟩
        · rw [if_neg (fun e => h2 (by rw [e]))]
        · refine Ev.step (fun k => by rw [frame_Next_l0, i64w (x := 8 * s) (by omega), i64w (x := 56 - 8 * s) (by omega), i64w (x := s + 1) (by omega), e]) ?_
          exact Ev.pos h1 (Ev.pos (by omega) (Ev.pos (by omega) (Ev.pos h2 (Ev.now _))))
    · refine .inl ⟨Sum.inr (), ?_, ?_⟩
      · rw [if_pos (list_ext_getD (by rw [len_be8, hv]) (fun i hi => hall i (by rw [len_be8] at hi; omega)))]
      · refine Ev.step (fun k => by rw [frame_Next_l0]) ?_
        exact Ev.neg h1 (Ev.now _)) 0 8 ⟨by omega, by omega, fun i hi => absurd hi (by simp)⟩
  rw [← hr]; exact hE
theorem frame_Next_ev (l : List Int) (at_ : Int) (hb : Bytes l) (hl : l.length ≤ 4611686018427387904) (ha : -9223372036854775808 ≤ at_ ∧ at_ < 9223372036854775808) : Ev (fun k => frame_Next k l at_) (nextS l at_) := by
  unfold frame_Next nextS
  by_cases h : 0 ≤ at_ ∧ at_ ≤ (l.length : Int)
  · rw [if_pos h]
    refine Ev.bind (b := decide ((l.length : Int) - at_ < 12)) ?_ ?_
    · refine Ev.neg (by omega) (Ev.neg (by omega) ?_)
      rw [i64w (by omega)]; exact Ev.now _
    · generalize hx : l.drop at_.toNat = x
      have hxl : (x.length : Int) = (l.length : Int) - at_ := by rw [← hx, List.length_drop]; omega
      have hbx : Bytes x := hx ▸ hb.drop _
      unfold nextAt
      refine Ev.ite (fun h1 => ?_) (fun h1 => ?_)
      · have h1 : (l.length : Int) - at_ < 12 := by simpa using h1
        rw [if_pos (by omega)]; exact Ev.now _
      · have h1 : ¬ (l.length : Int) - at_ < 12 := by simpa using h1
        rw [if_neg (by omega)]
        refine Ev.pos ⟨h.1, h.2, by omega⟩ ?_
        refine Ev.name fun v hv => ?_
        rw [show (l.length : Int).toNat = l.length by omega, List.take_length, hx] at hv
        subst hv
        refine Ev.pos (by omega) (Ev.pos (by omega) ?_)
        refine Ev.name fun e he => ?_
        have g0 := hbx.get 0
        have g1 := hbx.get 1
        have g2 := hbx.get 2
        have g3 := hbx.get 3
        simp only [show (2 : Int).toNat = 2 from rfl, show (3 : Int).toNat = 3 from rfl] at he
        rw [i64w (x := v.getD 2 0) (by omega), i64w (x := v.getD 3 0) (by omega), shl8 _ g2, i64w (x := 4 + v.getD 2 0 * 256) (by omega), i64w (by omega)] at he
        generalize hn : (v.getD 2 0 * 256 + v.getD 3 0).toNat = n
        have hen : e = (n : Int) + 4 := by omega
        simp only [show (0 : Int).toNat = 0 from rfl, show (1 : Int).toNat = 1 from rfl]
        refine Ev.bind (b := decide (¬ (v.getD 0 0 = 71 ∧ ¬ v.getD 1 0 = 0 ∧ n + 12 ≤ v.length))) ?_ ?_
        · refine Ev.pos (by omega) (Ev.ite (fun h2 => (Ev.now _).is (decide_eq_true (p := ¬ _) (fun h => h2 h.1)).symm) (fun h2 => ?_))
          refine Ev.pos (by omega) (Ev.ite (fun h3 => (Ev.now _).is (decide_eq_true (p := ¬ _) (fun h => h.2.1 h3)).symm) (fun h3 => ?_))
          rw [i64w (by omega)]
          refine (Ev.now _).is ?_
          have h2 : v.getD 0 0 = 71 := by omega
          rw [decide_eq_decide]
          constructor
          · intro h4 h5; omega
          · intro h4; exact Classical.byContradiction fun h5 => h4 ⟨h2, h3, by omega⟩
        · refine Ev.ite (fun h2 => ?_) (fun h2 => ?_)
          · rw [if_neg (of_decide_eq_true h2)]; exact Ev.now _
          · have h2 : v.getD 0 0 = 71 ∧ ¬ v.getD 1 0 = 0 ∧ n + 12 ≤ v.length := Classical.byContradiction fun h => h2 (decide_eq_true h)
            rw [if_pos h2]
            refine Ev.pos (by omega) ?_
            have en : e.toNat = n + 4 := by omega
            simp only [en, List.drop_zero]
            refine Ev.bind (digest_Of_ev _ (by simp [Short, maxLen]) (by simp [Short, maxLen]; omega)) ?_
            rw [i64w (x := e + 8) (by omega), show (e + 8).toNat = n + 12 by omega]
            refine Ev.pos (by omega) ?_
            refine Ev.name fun w hw => ?_
            have hw' : w = (v.drop (n + 4)).take 8 := by
              rw [hw, List.drop_take]; congr 1; omega
            refine Ev.name fun m hm => ?_
            have hwl : w.length = 8 := by rw [hw', List.length_take, List.length_drop]; omega
            rw [← hw, hwl] at hm
            subst hm
            refine Ev.bind (Next_l0_ev _ w hwl) ?_
            simp only [List.flatten_cons, List.flatten_nil, List.append_nil]
            rw [hw']
            by_cases h3 : be8 (fnv fnv0 (v.take (n + 4))) = (v.drop (n + 4)).take 8
            · rw [if_pos h3, if_pos h3]
              refine Ev.pos (by omega) (Ev.pos (by omega) ?_)
              refine Ev.tell (fun _ => clone_some _ (by simp; omega)) ?_
              rw [i64w (x := v.getD 1 0) (by omega), i64w (x := at_ + e) (by omega), i64w (by omega)]
              refine (Ev.now _).is ?_
              simp only [Prod.mk.injEq, true_and, and_true]
              refine ⟨rfl, ?_⟩
              omega
            · rw [if_neg h3, if_neg h3]
              exact Ev.now _
  · rw [if_neg h]
    refine Ev.bind (b := true) ?_ (Ev.pos rfl (Ev.now _))
    refine Ev.ite (fun _ => Ev.now _) (fun h1 => Ev.pos (by omega) (Ev.now _))
theorem nextS_ok {l : List Int} {p : Int} (h : (nextS l p).2.2.2 = true) : 0 ≤ p ∧ p + 12 ≤ (nextS l p).2.2.1 ∧ (nextS l p).2.2.1 ≤ (l.length : Int) := by
  unfold nextS at h ⊢
  split at h
  · rename_i h1
    rw [if_pos h1]
    split at h
    · rename_i kind body n hn
      unfold nextAt at hn
      split at hn
      · cases hn
      · split at hn
        · rename_i h2 h3
          split at hn
          · cases hn
            have : (l.drop p.toNat).length = l.length - p.toNat := List.length_drop
            simp only
            omega
          · cases hn
        · cases hn
    · cases h
  · cases h
theorem headOf_len (kind n : Int) : (headOf kind n).length = 4 := rfl
theorem frame_split (kind : Int) (body rest : List Int) : frameOf kind body ++ rest = headOf kind (body.length : Int) ++ (body ++ (be8 (fnv fnv0 (headOf kind (body.length : Int) ++ body)) ++ rest)) := by
  simp [frameOf, seal8]
theorem frame_n {kind : Int} {body rest : List Int} (h : body.length ≤ 65535) : ((frameOf kind body ++ rest).getD 2 0 * 256 + (frameOf kind body ++ rest).getD 3 0).toNat = body.length := by
  rw [frame_split]
  simp only [headOf, List.cons_append, List.nil_append, List.getD_cons_succ, List.getD_cons_zero]
  omega
theorem frame_0 {kind : Int} {body rest : List Int} : (frameOf kind body ++ rest).getD 0 0 = 71 := by rw [frame_split]; rfl
theorem frame_1 {kind : Int} {body rest : List Int} (h : 1 ≤ kind ∧ kind ≤ 255) : (frameOf kind body ++ rest).getD 1 0 = kind := by
  rw [frame_split]
  simp only [headOf, List.cons_append, List.nil_append, List.getD_cons_succ, List.getD_cons_zero]
  omega
theorem frame_take (kind : Int) (body rest : List Int) : (frameOf kind body ++ rest).take (body.length + 4) = headOf kind (body.length : Int) ++ body := by
  rw [frame_split, ← List.append_assoc, List.take_append_of_le_length (by simp [headOf_len]; omega), List.take_of_length_le (by simp [headOf_len]; omega)]
theorem frame_tail (kind : Int) (body rest : List Int) : ((frameOf kind body ++ rest).drop (body.length + 4)).take 8 = be8 (fnv fnv0 (headOf kind (body.length : Int) ++ body)) := by
  rw [frame_split, ← List.append_assoc, List.drop_append_of_le_length (by simp [headOf_len]; omega), List.drop_of_length_le (by simp [headOf_len]; omega)]
  rfl
theorem nextAt_frame {kind : Int} {body rest : List Int} (hk : 1 ≤ kind ∧ kind ≤ 255) (h : body.length ≤ 65535) : nextAt (frameOf kind body ++ rest) = some (kind, body, body.length + 12) := by
  have hl : (frameOf kind body ++ rest).length = body.length + 12 + rest.length := by rw [List.length_append, len_frameOf]
  unfold nextAt
  rw [frame_n h, frame_0, frame_1 hk, if_neg (by omega), if_pos ⟨rfl, by omega, by omega⟩, frame_take, frame_tail, if_pos rfl]
  simp [headOf]
theorem frame_inj {k k' : Int} {b b' : List Int} (hk : 1 ≤ k ∧ k ≤ 255) (hk' : 1 ≤ k' ∧ k' ≤ 255) (h : b.length ≤ 65535) (h' : b'.length ≤ 65535) (e : frameOf k b = frameOf k' b') : k = k' ∧ b = b' := by
  have h1 := nextAt_frame (rest := []) hk h
  have h2 := nextAt_frame (rest := []) hk' h'
  rw [e, h2] at h1
  simp only [Option.some.injEq, Prod.mk.injEq] at h1
  exact ⟨h1.1.symm, h1.2.1.symm⟩
theorem nextAt_cut {kind : Int} {body : List Int} (h : body.length ≤ 65535) {c : Nat} (hc : c < body.length + 12) : nextAt ((frameOf kind body).take c) = none := by
  have hl : ((frameOf kind body).take c).length = c := by rw [List.length_take, len_frameOf]; omega
  unfold nextAt
  by_cases h12 : c < 12
  · rw [if_pos (by omega)]
  · have g : ∀ i, i < c → ((frameOf kind body).take c).getD i 0 = (frameOf kind body).getD i 0 := fun i hi => by
      simp [List.getD_eq_getElem?_getD, hi]
    have hn := frame_n (kind := kind) (rest := []) h
    rw [List.append_nil] at hn
    rw [if_neg (by omega), g 2 (by omega), g 3 (by omega), hn, if_neg (by omega)]
theorem getD_set_ne' (l : List Int) {i j : Nat} (x : Int) (h : i ≠ j) : (l.set i x).getD j 0 = l.getD j 0 := by
  simp [List.getD_eq_getElem?_getD, h]
theorem getD_set_eq' (l : List Int) {i : Nat} (x : Int) (h : i < l.length) : (l.set i x).getD i 0 = x := by
  simp [List.getD_eq_getElem?_getD, h]
theorem nextAt_spoilt {kind : Int} {body : List Int} (hb : Bytes body) (h : body.length ≤ 65535) {j : Nat} (hj : j < body.length + 12) (h2 : j ≠ 2) (h3 : j ≠ 3) {by_ : Int} (hby : 0 ≤ by_ ∧ by_ < 256) (hne : by_ ≠ 0) :
    nextAt ((frameOf kind body).set j (Go.bits .xor .u8 ((frameOf kind body).getD j 0) by_)) = none := by
  have hfb := frameOf_bytes kind hb
  obtain ⟨hr, hz⟩ := xor8 (hfb.get j) hby
  generalize hx : Go.bits .xor .u8 ((frameOf kind body).getD j 0) by_ = x at hr hz ⊢
  have hxne : x ≠ (frameOf kind body).getD j 0 := fun e => hne (hz e)
  have hn := frame_n (kind := kind) (rest := []) h
  have h0 := frame_0 (kind := kind) (body := body) (rest := [])
  have ht := frame_take kind body []
  have hta := frame_tail kind body []
  rw [List.append_nil] at hn h0 ht hta
  have hL := len_frameOf kind body
  generalize hF : frameOf kind body = F at *
  unfold nextAt
  rw [getD_set_ne' F x h2, getD_set_ne' F x h3, hn, List.length_set]
  rw [if_neg (by omega)]
  by_cases e0 : j = 0
  · subst e0
    rw [getD_set_eq' F x (by omega), if_neg (fun hh => hxne (by rw [hh.1, h0]))]
  · split
    · split
      · rename_i hc
        exfalso
        by_cases hj4 : j < body.length + 4
        · rw [List.take_set, ht, List.drop_set, if_pos hj4, hta] at hc
          have e := be8_inj (fnv_range _) (fnv_range _) hc
          have hlen : j < (headOf kind (body.length : Int) ++ body).length := by simp [headOf_len]; omega
          have hbb : Bytes (headOf kind (body.length : Int) ++ body) := (headOf_bytes _ _).app hb
          have e2 := fnv_set hlen (by omega) (by have := hbb.get j; omega) e
          apply hxne
          rw [e2, ← ht]
          simp [List.getD_eq_getElem?_getD, hj4]
        · rw [List.take_set, List.set_eq_of_length_le (by rw [ht]; simp [headOf_len]; omega), ht, List.drop_set, if_neg hj4, List.take_set, hta] at hc
          have e := congrArg (fun l => l.getD (j - (body.length + 4)) 0) hc
          rw [getD_set_eq' _ _ (by rw [len_be8]; omega), ← hta] at e
          apply hxne
          rw [← e]
          simp only [List.getD_eq_getElem?_getD, List.getElem?_take, List.getElem?_drop]
          rw [if_pos (by omega), show body.length + 4 + (j - (body.length + 4)) = j by omega]
      · rfl
    · rfl
theorem nextS_frame {kind : Int} {body ahead rest : List Int} (hk : 1 ≤ kind ∧ kind ≤ 255) (h : body.length ≤ 65535) :
    nextS (ahead ++ (frameOf kind body ++ rest)) (ahead.length : Int) = (kind, body, (ahead.length : Int) + (body.length + 12 : Nat), true) := by
  unfold nextS
  rw [if_pos ⟨by omega, by simp; omega⟩, Int.toNat_natCast, List.drop_left, nextAt_frame hk h]
theorem nextS_frame0 {kind : Int} {body rest : List Int} (hk : 1 ≤ kind ∧ kind ≤ 255) (h : body.length ≤ 65535) :
    nextS (frameOf kind body ++ rest) 0 = (kind, body, (body.length : Int) + 12, true) := by
  have := nextS_frame (ahead := []) (rest := rest) hk h
  simpa using this
theorem nextS_none {l : List Int} (h : nextAt l = none) : nextS l 0 = (0, [], 0, false) := by
  unfold nextS
  rw [if_pos (by omega)]
  simp [h]
end Go.Proofs.YtfocilpnbiciaaaDoor.Pure
