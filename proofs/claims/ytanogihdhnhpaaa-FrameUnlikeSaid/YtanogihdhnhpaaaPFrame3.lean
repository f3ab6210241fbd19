/- Frames are found again, cut short or spoilt they are not. -/
import Derived.Test.YtanogihdhnhpaaaPFrame2
namespace Go.Proofs.Ytanogihdhnhpaaa.Pure
open Go Go.Gg Go.Gp Gf
set_option linter.unusedVariables false

theorem headOf_len (kind n : Int) : (headOf kind n).length = 4 := rfl
theorem frame_split (kind : Int) (body rest : List Int) : frameOf kind body ++ rest = headOf kind (body.length : Int) ++ (body ++ (be8 (fnv fnv0 (headOf kind (body.length : Int) ++ body)) ++ rest)) := by
  simp [frameOf, seal8]
theorem frame_n {kind : Int} {body rest : List Int} (h : body.length ≤ 65535) : ((frameOf kind body ++ rest).getD 2 0 * 256 + (frameOf kind body ++ rest).getD 3 0).toNat = body.length := by
  rw [frame_split]
  simp only [headOf, List.cons_append, List.nil_append, List.getD_cons_succ, List.getD_cons_zero]
  omega
theorem frame_0 {kind : Int} {body rest : List Int} : (frameOf kind body ++ rest).getD 0 0 = 71 := by rw [frame_split]; rfl
theorem frame_1 {kind : Int} {body rest : List Int} (h : 1 ≤ kind ∧ kind ≤ 255) : (frameOf kind body ++ rest).getD 1 0 = kind := by
  rw [frame_split]
  simp only [headOf, List.cons_append, List.nil_append, List.getD_cons_succ, List.getD_cons_zero]
  omega
theorem frame_take (kind : Int) (body rest : List Int) : (frameOf kind body ++ rest).take (body.length + 4) = headOf kind (body.length : Int) ++ body := by
  rw [frame_split, ← List.append_assoc, List.take_append_of_le_length (by simp [headOf_len]; omega), List.take_of_length_le (by simp [headOf_len]; omega)]
theorem frame_tail (kind : Int) (body rest : List Int) : ((frameOf kind body ++ rest).drop (body.length + 4)).take 8 = be8 (fnv fnv0 (headOf kind (body.length : Int) ++ body)) := by
  rw [frame_split, ← List.append_assoc, List.drop_append_of_le_length (by simp [headOf_len]; omega), List.drop_of_length_le (by simp [headOf_len]; omega)]
  rfl

theorem nextAt_frame {kind : Int} {body rest : List Int} (hk : 1 ≤ kind ∧ kind ≤ 255) (h : body.length ≤ 65535) : nextAt (frameOf kind body ++ rest) = some (kind, body, body.length + 12) := by
  have hl : (frameOf kind body ++ rest).length = body.length + 12 + rest.length := by rw [List.length_append, len_frameOf]
  unfold nextAt
  rw [frame_n h, frame_0, frame_1 hk, if_neg (by omega), if_pos ⟨rfl, by omega, by omega⟩, frame_take, frame_tail, if_pos rfl]
  simp [headOf]

theorem frame_inj {k k' : Int} {b b' : List Int} (hk : 1 ≤ k ∧ k ≤ 255) (hk' : 1 ≤ k' ∧ k' ≤ 255) (h : b.length ≤ 65535) (h' : b'.length ≤ 65535) (e : frameOf k b = frameOf k' b') : k = k' ∧ b = b' := by
  have h1 := nextAt_frame (rest := []) hk h
  have h2 := nextAt_frame (rest := []) hk' h'
  rw [e, h2] at h1
  simp only [Option.some.injEq, Prod.mk.injEq] at h1
  exact ⟨h1.1.symm, h1.2.1.symm⟩

theorem nextAt_cut {kind : Int} {body : List Int} (h : body.length ≤ 65535) {c : Nat} (hc : c < body.length + 12) : nextAt ((frameOf kind body).take c) = none := by
  have hl : ((frameOf kind body).take c).length = c := by rw [List.length_take, len_frameOf]; omega
  unfold nextAt
  by_cases h12 : c < 12
  · rw [if_pos (by omega)]
  · have g : ∀ i, i < c → ((frameOf kind body).take c).getD i 0 = (frameOf kind body).getD i 0 := fun i hi => by
      simp [List.getD_eq_getElem?_getD, hi]
    have hn := frame_n (kind := kind) (rest := []) h
    rw [List.append_nil] at hn
    rw [if_neg (by omega), g 2 (by omega), g 3 (by omega), hn, if_neg (by omega)]

theorem getD_set_ne' (l : List Int) {i j : Nat} (x : Int) (h : i ≠ j) : (l.set i x).getD j 0 = l.getD j 0 := by
  simp [List.getD_eq_getElem?_getD, h]
theorem getD_set_eq' (l : List Int) {i : Nat} (x : Int) (h : i < l.length) : (l.set i x).getD i 0 = x := by
  simp [List.getD_eq_getElem?_getD, h]

theorem nextAt_spoilt {kind : Int} {body : List Int} (hb : Bytes body) (h : body.length ≤ 65535) {j : Nat} (hj : j < body.length + 12) (h2 : j ≠ 2) (h3 : j ≠ 3) {by_ : Int} (hby : 0 ≤ by_ ∧ by_ < 256) (hne : by_ ≠ 0) :
    nextAt ((frameOf kind body).set j (Go.bits .xor .u8 ((frameOf kind body).getD j 0) by_)) = none := by
  have hfb := frameOf_bytes kind hb
  obtain ⟨hr, hz⟩ := xor8 (hfb.get j) hby
  generalize hx : Go.bits .xor .u8 ((frameOf kind body).getD j 0) by_ = x at hr hz ⊢
  have hxne : x ≠ (frameOf kind body).getD j 0 := fun e => hne (hz e)
  have hn := frame_n (kind := kind) (rest := []) h
  have h0 := frame_0 (kind := kind) (body := body) (rest := [])
  have ht := frame_take kind body []
  have hta := frame_tail kind body []
  rw [List.append_nil] at hn h0 ht hta
  have hL := len_frameOf kind body
  generalize hF : frameOf kind body = F at *
  unfold nextAt
  rw [getD_set_ne' F x h2, getD_set_ne' F x h3, hn, List.length_set]
  rw [if_neg (by omega)]
  by_cases e0 : j = 0
  · subst e0
    rw [getD_set_eq' F x (by omega), if_neg (fun hh => hxne (by rw [hh.1, h0]))]
  · split
    · split
      · rename_i hc
        exfalso
        by_cases hj4 : j < body.length + 4
        · rw [List.take_set, ht, List.drop_set, if_pos hj4, hta] at hc
          have e := be8_inj (fnv_range _) (fnv_range _) hc
          have hlen : j < (headOf kind (body.length : Int) ++ body).length := by simp [headOf_len]; omega
          have hbb : Bytes (headOf kind (body.length : Int) ++ body) := (headOf_bytes _ _).app hb
          have e2 := fnv_set hlen (by omega) (by have := hbb.get j; omega) e
          apply hxne
          rw [e2, ← ht]
          simp [List.getD_eq_getElem?_getD, hj4]
        · rw [List.take_set, List.set_eq_of_length_le (by rw [ht]; simp [headOf_len]; omega), ht, List.drop_set, if_neg hj4, List.take_set, hta] at hc
          have e := congrArg (fun l => l.getD (j - (body.length + 4)) 0) hc
          rw [getD_set_eq' _ _ (by rw [len_be8]; omega), ← hta] at e
          apply hxne
          rw [← e]
          simp only [List.getD_eq_getElem?_getD, List.getElem?_take, List.getElem?_drop]
          rw [if_pos (by omega), show body.length + 4 + (j - (body.length + 4)) = j by omega]
      · rfl
    · rfl

theorem fnv_71 : fnvS fnv0 71 ≠ fnv0 := by decide +kernel

theorem next_1 {kind : Int} {body rest : List Int} (h : body.length ≤ 65535) : (nextS (frameOf kind body ++ rest) 1).2.2.1 ≠ (body.length : Int) + 12 := by
  have hl : (frameOf kind body ++ rest).length = body.length + 12 + rest.length := by rw [List.length_append, len_frameOf]
  unfold nextS
  rw [if_pos (by omega)]
  split
  · rename_i k b n hn
    intro e
    simp only at e
    unfold nextAt at hn
    split at hn
    · cases hn
    · split at hn
      · rename_i h1 h2
        split at hn
        · rename_i hc
          simp only [Option.some.injEq, Prod.mk.injEq] at hn
          generalize ((((frameOf kind body ++ rest).drop (1 : Int).toNat).getD 2 0 * 256 + ((frameOf kind body ++ rest).drop (1 : Int).toNat).getD 3 0).toNat) = m at hn hc h2
          have hm : m + 1 = body.length := by omega
          rw [show (1 : Int).toNat = 1 from rfl] at hc
          have t1 : ((frameOf kind body ++ rest).drop 1).take (m + 4) = (headOf kind (body.length : Int) ++ body).drop 1 := by
            rw [← frame_take kind body rest, List.drop_take]; congr 1; omega
          have t2 : (((frameOf kind body ++ rest).drop 1).drop (m + 4)).take 8 = be8 (fnv fnv0 (headOf kind (body.length : Int) ++ body)) := by
            rw [← frame_tail kind body rest, List.drop_drop]; congr 2; omega
          rw [t1, t2] at hc
          have e := be8_inj (fnv_range _) (fnv_range _) hc
          have e3 : headOf kind (body.length : Int) ++ body = 71 :: (headOf kind (body.length : Int) ++ body).drop 1 := rfl
          conv at e => rhs; rw [e3]
          have e4 : fnv fnv0 (71 :: (headOf kind (body.length : Int) ++ body).drop 1) = fnv (fnvS fnv0 71) ((headOf kind (body.length : Int) ++ body).drop 1) := by unfold fnv; rw [List.foldl_cons]
          rw [e4] at e
          exact fnv_71 (fnv_inj (by decide) (fnvS_range _ _) e).symm
        · cases hn
      · cases hn
  · simp only; omega

theorem nextS_frame {kind : Int} {body ahead rest : List Int} (hk : 1 ≤ kind ∧ kind ≤ 255) (h : body.length ≤ 65535) :
    nextS (ahead ++ (frameOf kind body ++ rest)) (ahead.length : Int) = (kind, body, (ahead.length : Int) + (body.length + 12 : Nat), true) := by
  unfold nextS
  rw [if_pos ⟨by omega, by simp; omega⟩, Int.toNat_natCast, List.drop_left, nextAt_frame hk h]
theorem nextS_frame0 {kind : Int} {body rest : List Int} (hk : 1 ≤ kind ∧ kind ≤ 255) (h : body.length ≤ 65535) :
    nextS (frameOf kind body ++ rest) 0 = (kind, body, (body.length : Int) + 12, true) := by
  have := nextS_frame (ahead := []) (rest := rest) hk h
  simpa using this
theorem nextS_none {l : List Int} (h : nextAt l = none) : nextS l 0 = (0, [], 0, false) := by
  unfold nextS
  rw [if_pos (by omega)]
  simp [h]

/-! ## Frames one behind the other -/
def rowsOf (kind : Int) (bs : List (List Int)) : List Int := (bs.map (frameOf kind)).flatten
theorem rowsOf_bytes {kind : Int} {bs : List (List Int)} (hb : ∀ b ∈ bs, Bytes b) : Bytes (rowsOf kind bs) := by
  intro x hx
  simp only [rowsOf, List.mem_flatten, List.mem_map] at hx
  obtain ⟨l, ⟨b, hbm, rfl⟩, hx⟩ := hx
  exact frameOf_bytes kind (hb b hbm) x hx
theorem rowsOf_take {kind : Int} (bs : List (List Int)) {i : Nat} (h : i < bs.length) : rowsOf kind (bs.take (i + 1)) = rowsOf kind (bs.take i) ++ frameOf kind (bs.getD i []) := by
  rw [take_getD bs [] h]; simp [rowsOf]
theorem rowsOf_len {kind : Int} {m : Nat} {bs : List (List Int)} (hb : ∀ b ∈ bs, b.length ≤ m) : bs.length ≤ (rowsOf kind bs).length ∧ (rowsOf kind bs).length ≤ bs.length * (m + 12) := by
  induction bs with
  | nil => simp [rowsOf]
  | cons b bs ih =>
    have h1 := hb b (by simp)
    have h2 := ih (fun x hx => hb x (by simp [hx]))
    have e : (rowsOf kind (b :: bs)).length = b.length + 12 + (rowsOf kind bs).length := by simp [rowsOf, len_frameOf]
    rw [e, List.length_cons, Nat.add_mul]
    omega

theorem cnt_rows {kind : Int} (hk : 1 ≤ kind ∧ kind ≤ 255) {l rest : List Int} (hr : nextAt rest = none) : ∀ (bs : List (List Int)) (_ : ∀ b ∈ bs, b.length ≤ 65535) (d : Nat) (n : Int) (p : Nat), p ≤ l.length → l.drop p = rowsOf kind bs ++ rest → bs.length < d →
    cnt l d n (p : Int) = (n + bs.length, (p : Int) + (rowsOf kind bs).length) := by
  intro bs
  induction bs with
  | nil =>
    intro _ d n p hp e hd
    cases d with
    | zero => omega
    | succ d =>
      unfold cnt
      have : nextS l (p : Int) = (0, [], 0, false) := by
        unfold nextS
        rw [if_pos (by omega), Int.toNat_natCast, e]
        simp [rowsOf, hr]
      rw [this]
      simp [rowsOf]
  | cons b bs ih =>
    intro hb d n p hp e hd
    have hbl := hb b (by simp)
    have el : rowsOf kind (b :: bs) ++ rest = frameOf kind b ++ (rowsOf kind bs ++ rest) := by simp [rowsOf]
    have hlen : l.length = p + (frameOf kind b).length + (rowsOf kind bs ++ rest).length := by
      have := congrArg List.length e
      rw [el, List.length_drop, List.length_append] at this
      omega
    cases d with
    | zero => omega
    | succ d =>
      unfold cnt
      have : nextS l (p : Int) = (kind, b, (p : Int) + (b.length + 12 : Nat), true) := by
        unfold nextS
        rw [if_pos (by omega), Int.toNat_natCast, e, el, nextAt_frame hk hbl]
      rw [this]
      simp only [if_true]
      have := ih (fun x hx => hb x (by simp [hx])) d (n + 1) (p + (b.length + 12)) (by rw [hlen, len_frameOf]; omega) (by
        rw [← List.drop_drop, e, el, ← len_frameOf kind b, List.drop_left]) (by simp at hd; omega)
      rw [show ((p : Int) + ((b.length + 12 : Nat) : Int)) = ((p + (b.length + 12) : Nat) : Int) by omega, this]
      have e2 : (rowsOf kind (b :: bs)).length = b.length + 12 + (rowsOf kind bs).length := by simp [rowsOf, len_frameOf]
      rw [e2, List.length_cons]
      simp only [Prod.mk.injEq]
      omega

theorem countS_rows {kind : Int} (hk : 1 ≤ kind ∧ kind ≤ 255) {bs : List (List Int)} (hb : ∀ b ∈ bs, b.length ≤ 65535) {rest : List Int} (hr : nextAt rest = none) :
    countS (rowsOf kind bs ++ rest) = ((bs.length : Int), ((rowsOf kind bs).length : Int)) := by
  have h1 := (rowsOf_len (kind := kind) hb).1
  have := cnt_rows hk hr (l := rowsOf kind bs ++ rest) bs hb ((rowsOf kind bs ++ rest).length + 1) 0 0 (by omega) (by simp) (by simp; omega)
  simpa [countS] using this
end Go.Proofs.Ytanogihdhnhpaaa.Pure
