/- Texts of runes, in plain words: what a text that is UTF-8 is made of; its runes, its words, its lower letters. -/
import Derived.Test.YtmgkpphbehamcaaGreatDoorGgV
import Derived.Lib.ValidLaws
import Derived.Lib.FieldsP
import Derived.Test.YtmgkpphbehamcaaGreatDoorGgH
import Derived.Laws.Bits64
import Derived.Laws.BitsLemmas
namespace Go.Gg
set_option linter.unusedVariables false
open Go Go.Proofs Go.Lib
def Sc (r : Int) : Prop := (0 ≤ r ∧ r < 55296) ∨ (57344 ≤ r ∧ r ≤ 1114111)
def enc (rs : List Int) : List UInt8 := rs.flatMap encodeRune
def bs (rs : List Int) : ByteArray := ⟨(enc rs).toArray⟩
theorem enc_cons (r : Int) (t : List Int) : enc (r :: t) = encodeRune r ++ enc t := by simp [enc]
theorem enc_append (a b : List Int) : enc (a ++ b) = enc a ++ enc b := by simp [enc]
theorem bs_toList (rs : List Int) : (bs rs).data.toList = enc rs := by simp [bs]
theorem bs_append (a b : List Int) : bs a ++ bs b = bs (a ++ b) := by
 apply ByteArray.ext; apply Array.toList_inj.1; rw [ByteArray.data_append]; simp [bs, enc_append]
theorem bs_size (rs : List Int) : (bs rs).size = (enc rs).length := by show (bs rs).data.size = _; simp [bs]
theorem enc_len (r : Int) : 1 ≤ (encodeRune r).length ∧ (encodeRune r).length ≤ 4 := by unfold encodeRune; rw [List.length_map]; exact encodeRuneZ_length r
theorem enc_ne (r : Int) : encodeRune r ≠ [] := fun e => by have := (enc_len r).1; rw [e] at this; simp at this
theorem enc_length (rs : List Int) : rs.length ≤ (enc rs).length := by
 induction rs with
 | nil => simp
 | cons r t ih => rw [enc_cons, List.length_append, List.length_cons]; have := (enc_len r).1; omega
theorem enc_length4 (rs : List Int) : (enc rs).length ≤ 4 * rs.length := by
 induction rs with
 | nil => simp [enc]
 | cons r t ih => rw [enc_cons, List.length_append, List.length_cons]; have := (enc_len r).2; omega
theorem toB (z : Int) (h0 : 0 ≤ z) (h1 : z < 256) : ((z.toNat.toUInt8).toNat : Int) = z := by
 have : z.toNat % 256 = z.toNat := Nat.mod_eq_of_lt (by omega); simp [Nat.toUInt8, this]; omega
theorem toBn (z : Int) (h0 : 0 ≤ z) (h1 : z < 256) : (z.toNat.toUInt8).toNat = z.toNat := by
 have := toB z h0 h1; omega
set_option maxHeartbeats 1000000 in
theorem decodeL_enc {r : Int} (h : Sc r) (t : List UInt8) : decodeL (encodeRune r ++ t) = (r.toNat, (encodeRune r).length) := by
 rw [decodeL_N]; unfold Sc at h; by_cases h1 : r ≤ 127
 ·simp only [encodeRune, encodeRuneZ_one (show 0 ≤ r by omega) h1, List.map_cons, List.map_nil, List.cons_append, List.nil_append, List.getD_cons_zero, List.length_cons, List.length_nil]; rw [toBn r (by omega) (by omega)]; unfold decodeN; rw [if_pos (by omega)]
 by_cases h2 : r ≤ 2047
 ·simp only [encodeRune, encodeRuneZ_two (show 128 ≤ r by omega) h2, List.map_cons, List.map_nil, List.cons_append, List.nil_append, List.getD_cons_zero, List.getD_cons_succ, List.length_cons, List.length_nil]; rw [toBn _ (by omega) (by omega), toBn _ (by omega) (by omega)]; unfold decodeN; rw [if_neg (by omega), if_pos (by omega), if_pos (by omega)]; ext <;> simp <;> omega
 by_cases h3 : r ≤ 65535
 ·simp only [encodeRune, encodeRuneZ_three (show (2048 ≤ r ∧ r < 55296) ∨ (57343 < r ∧ r ≤ 65535) by omega), List.map_cons, List.map_nil, List.cons_append, List.nil_append, List.getD_cons_zero, List.getD_cons_succ, List.length_cons, List.length_nil]; rw [toBn _ (by omega) (by omega), toBn _ (by omega) (by omega), toBn _ (by omega) (by omega)]; unfold decodeN; rw [if_neg (by omega), if_neg (by omega), if_pos (by omega), if_pos (by omega)]; ext <;> simp <;> omega
 ·simp only [encodeRune, encodeRuneZ_four (show 65536 ≤ r by omega) (by omega), List.map_cons, List.map_nil, List.cons_append, List.nil_append, List.getD_cons_zero, List.getD_cons_succ, List.length_cons, List.length_nil]; rw [toBn _ (by omega) (by omega), toBn _ (by omega) (by omega), toBn _ (by omega) (by omega), toBn _ (by omega) (by omega)]; unfold decodeN; rw [if_neg (by omega), if_neg (by omega), if_neg (by omega), if_pos (by omega), if_pos (by omega)]; ext <;> simp <;> omega
def fixR (r : Int) : Int := if (0 ≤ r ∧ r < 55296) ∨ (57344 ≤ r ∧ r ≤ 1114111) then r else 65533
theorem fixR_sc (r : Int) : Sc (fixR r) := by unfold fixR Sc; split <;> omega
theorem encodeRune_fix (r : Int) : encodeRune (fixR r) = encodeRune r := by
 unfold fixR
 split
 ·rfl
 ·rename_i h
  unfold encodeRune; rw [encodeRuneZ_bad (by omega : r < 0 ∨ (55296 ≤ r ∧ r ≤ 57343) ∨ 1114111 < r)]; rfl
theorem enc_fix (rs : List Int) : enc (rs.map fixR) = enc rs := by
 induction rs with
 | nil => rfl
 | cons r t ih => rw [List.map_cons, enc_cons, enc_cons, ih, encodeRune_fix]
theorem validD_enc_sc : ∀ (rs : List Int), (∀ r ∈ rs, Sc r) → validD (enc rs) = true
 | [], _ => rfl
 | r :: t, h => by
  rw [enc_cons, validD_step _ (by simp [enc_ne]), decodeL_enc (h r (by simp))]; rw [if_neg]
  ·rw [List.drop_left]; exact validD_enc_sc t fun x hx => h x (by simp [hx])
  ·rintro ⟨a, b⟩; have h0 := h r (by simp); have : r = 65533 := by simp only at a; unfold Sc at h0; omega
   subst this; simp [encodeRune, encodeRuneZ] at b
theorem validD_enc (rs : List Int) : validD (enc rs) = true := by
 rw [← enc_fix]; exact validD_enc_sc _ fun r hr => by obtain ⟨x, _, rfl⟩ := List.mem_map.1 hr; exact fixR_sc x
theorem decodeL_sc (l : List UInt8) (hv : ¬ ((decodeL l).1 = 65533 ∧ (decodeL l).2 = 1)) : Sc ((decodeL l).1 : Int) := by
 rw [decodeL_N] at hv ⊢; have k0 := (l.getD 0 0).toNat_lt; have k1 := (l.getD 1 0).toNat_lt; have k2 := (l.getD 2 0).toNat_lt; have k3 := (l.getD 3 0).toNat_lt; unfold Sc; rcases decodeN_shape l.length (l.getD 0 0).toNat (l.getD 1 0).toNat (l.getD 2 0).toNat (l.getD 3 0).toNat with ⟨c, e⟩ | ⟨c1, c2, c3, cv, e⟩ | ⟨c1, c2, c3, c4, cv, cs, e⟩ | ⟨c1, c2, c3, c4, c5, cv, cw, e⟩ | e
 all_goals (rw [e] at hv ⊢; dsimp only at hv ⊢)
 all_goals (try (exact absurd ⟨rfl, rfl⟩ hv))
 all_goals omega
theorem validD_runes : ∀ (n : Nat) (l : List UInt8), l.length ≤ n → validD l = true → ∃ rs, (∀ r ∈ rs, Sc r) ∧ l = enc rs
 | 0, l, hn, _ => ⟨[], by simp, List.eq_nil_of_length_eq_zero (by omega)⟩
 | n + 1, l, hn, hv => by
  by_cases hne : l = []
  ·exact ⟨[], by simp, hne⟩
  ·rw [validD_step l hne] at hv
   split at hv
   ·cases hv
   ·rename_i hb
    have hw := decodeL_width l; have hl : 0 < l.length := List.length_pos_iff.2 hne; obtain ⟨rs, h1, h2⟩ := validD_runes n (l.drop (decodeL l).2) (by rw [List.length_drop]; omega) hv; refine ⟨((decodeL l).1 : Int) :: rs, ?_, ?_⟩
    ·intro r hr; rcases List.mem_cons.1 hr with rfl | hr
     ·exact decodeL_sc l hb
     ·exact h1 r hr
    ·rw [enc_cons, ← h2, encode_decode l hne hb, List.take_append_drop]
theorem valid_bs {s : ByteArray} (h : validD s.data.toList = true) : ∃ rs, (∀ r ∈ rs, Sc r) ∧ s = bs rs := by
 obtain ⟨rs, h1, h2⟩ := validD_runes _ _ (Nat.le_refl _) h; refine ⟨rs, h1, ?_⟩; apply ByteArray.ext; apply Array.toList_inj.1; rw [h2, bs_toList]
theorem bs_valid (rs : List Int) : validD (bs rs).data.toList = true := by rw [bs_toList]; exact validD_enc rs
theorem decode_bs {s : ByteArray} {pre : List UInt8} {r : Int} {t : List Int} (hs : s.data.toList = pre ++ enc (r :: t)) (hr : Sc r) :
  Utf8.decode s pre.length = (r.toNat, (encodeRune r).length) ∧ pre.length < s.size ∧ s.data.toList = (pre ++ encodeRune r) ++ enc t := by
 refine ⟨?_, ?_, by rw [hs, enc_cons, List.append_assoc]⟩
 ·rw [← decodeL_drop, hs, List.drop_left, enc_cons, decodeL_enc hr]
 ·have : s.data.toList.length = s.size := by rw [Array.length_toList]; rfl
  rw [← this, hs, List.length_append, enc_cons, List.length_append]; have := (enc_len r).1; omega
theorem end_bs {s : ByteArray} {pre : List UInt8} (hs : s.data.toList = pre ++ enc []) : ¬ pre.length < s.size := by
 have : s.data.toList.length = s.size := by rw [Array.length_toList]; rfl
 rw [← this, hs]; simp [enc]
theorem sc_cast {r : Int} (h : Sc r) : ((r.toNat : Nat) : Int) = r := by unfold Sc at h; omega
theorem runesL_bs (s : ByteArray) : ∀ (rs : List Int) (b : Nat) (pre : List UInt8), (∀ r ∈ rs, Sc r) → s.data.toList = pre ++ enc rs → (enc rs).length ≤ b → runesL s b pre.length = rs
 | [], 0, pre, _, hs, _ => rfl
 | [], b + 1, pre, _, hs, _ => by unfold runesL; rw [if_neg (end_bs hs)]
 | r :: t, 0, pre, _, _, hb => by have := enc_length (r :: t); simp at this; omega
 | r :: t, b + 1, pre, h, hs, hb => by
  have hr := h r (by simp); obtain ⟨e, hlt, hs'⟩ := decode_bs hs hr; unfold runesL; rw [if_pos hlt, e]
  dsimp only
  rw [sc_cast hr, show pre.length + (encodeRune r).length = (pre ++ encodeRune r).length by simp, runesL_bs s t b _ (fun x hx => h x (by simp [hx])) hs' (by rw [enc_cons, List.length_append] at hb; have := (enc_len r).1; omega)]
theorem runesOf_bs (rs : List Int) (h : ∀ r ∈ rs, Sc r) : runesOf (bs rs) = rs :=
 runesL_bs (bs rs) rs _ [] h (by rw [bs_toList]; rfl) (by rw [bs_size]; exact Nat.le_refl _)
theorem normFrom_bs (s : ByteArray) : ∀ (rs : List Int) (b : Nat) (pre : List UInt8), (∀ r ∈ rs, Sc r) → s.data.toList = pre ++ enc rs → (enc rs).length ≤ b → normFrom s b pre.length = enc (rs.map toLowerU)
 | [], 0, pre, _, hs, _ => rfl
 | [], b + 1, pre, _, hs, _ => by unfold normFrom; rw [if_neg (end_bs hs)]; rfl
 | r :: t, 0, pre, _, _, hb => by have := enc_length (r :: t); simp at this; omega
 | r :: t, b + 1, pre, h, hs, hb => by
  have hr := h r (by simp); obtain ⟨e, hlt, hs'⟩ := decode_bs hs hr; unfold normFrom; rw [if_pos hlt, e]
  dsimp only
  rw [sc_cast hr, show pre.length + (encodeRune r).length = (pre ++ encodeRune r).length by simp, normFrom_bs s t b _ (fun x hx => h x (by simp [hx])) hs' (by rw [enc_cons, List.length_append] at hb; have := (enc_len r).1; omega), List.map_cons, enc_cons]
theorem normD_bs (rs : List Int) (h : ∀ r ∈ rs, Sc r) : normD (bs rs) = bs (rs.map toLowerU) := by
 unfold normD; rw [if_pos (bs_valid rs), show normFrom (bs rs) (bs rs).size 0 = _ from normFrom_bs (bs rs) rs _ [] h (by rw [bs_toList]; rfl) (by rw [bs_size]; exact Nat.le_refl _)]; rfl
theorem encode_eq (r : Int) : Utf8.encode r = ⟨(encodeRune r).toArray⟩ := by
 rw [← encodeRune_fix]; have hsc := fixR_sc r; have hv : (if Utf8.valid r then r.toNat else Utf8.runeError) = (fixR r).toNat := by
  unfold fixR Utf8.valid Utf8.runeError
  split <;> rename_i h <;> split <;> rename_i h' <;> simp at h <;> (try omega)
 unfold Utf8.encode; simp only; rw [hv]; generalize fixR r = z at hsc ⊢; unfold Sc at hsc; unfold encodeRune encodeRuneZ; have e : ∀ (x : Int) (n : Nat), x.toNat = n → UInt8.ofNat n = x.toNat.toUInt8 := fun x n h => by rw [h]
 by_cases h1 : z ≤ 127
 ·rw [if_pos (by omega), if_pos (by omega)]; simp
 by_cases h2 : z ≤ 2047
 ·rw [if_neg (by omega), if_pos (by omega), if_neg (by omega), if_pos (by omega)]; simp only [List.map_cons, List.map_nil]; rw [e (192 + z / 64) _ (by omega), e (128 + z % 64) _ (by omega)]
 by_cases h3 : z ≤ 65535
 ·rw [if_neg (by omega), if_neg (by omega), if_pos (by omega), if_neg (by omega), if_neg (by omega), if_pos (by omega)]; simp only [List.map_cons, List.map_nil]; rw [e (224 + z / 4096) _ (by omega), e (128 + z / 64 % 64) _ (by omega), e (128 + z % 64) _ (by omega)]
 ·rw [if_neg (by omega), if_neg (by omega), if_neg (by omega), if_neg (by omega), if_neg (by omega), if_neg (by omega), if_pos (by omega)]; simp only [List.map_cons, List.map_nil]; rw [e (240 + z / 262144) _ (by omega), e (128 + z / 4096 % 64) _ (by omega), e (128 + z / 64 % 64) _ (by omega), e (128 + z % 64) _ (by omega)]
theorem runesBytes_from : ∀ (rs : List Int) (a : List Int), rs.foldl (fun r n => r ++ Utf8.encode n) (bs a) = bs (a ++ rs)
 | [], a => by simp
 | r :: t, a => by
  rw [List.foldl_cons, encode_eq, show (⟨(encodeRune r).toArray⟩ : ByteArray) = bs [r] by simp [bs, enc], bs_append, runesBytes_from t (a ++ [r])]; simp
theorem runesBytes_bs (rs : List Int) : runesBytes rs = bs rs := runesBytes_from rs []
theorem idxFuncFrom_bs (p : Nat → Bool) (s : ByteArray) : ∀ (rs : List Int) (b : Nat) (pre : List UInt8), (∀ r ∈ rs, Sc r) → s.data.toList = pre ++ enc rs → (enc rs).length ≤ b →
  decide (0 ≤ idxFuncFrom p true s b pre.length) = rs.any fun r => p r.toNat
 | [], 0, pre, _, hs, _ => by simp [idxFuncFrom]
 | [], b + 1, pre, _, hs, _ => by unfold idxFuncFrom; rw [if_neg (end_bs hs)]; simp
 | r :: t, 0, pre, _, _, hb => by have := enc_length (r :: t); simp at this; omega
 | r :: t, b + 1, pre, h, hs, hb => by
  have hr := h r (by simp); obtain ⟨e, hlt, hs'⟩ := decode_bs hs hr; unfold idxFuncFrom; rw [if_pos hlt, e]
  dsimp only
  cases hp : p r.toNat
  ·rw [if_neg (by simp), show pre.length + (encodeRune r).length = (pre ++ encodeRune r).length by simp, idxFuncFrom_bs p s t b _ (fun x hx => h x (by simp [hx])) hs' (by rw [enc_cons, List.length_append] at hb; have := (enc_len r).1; omega)]; simp [hp]
  ·rw [if_pos rfl]; simp [hp]
theorem idxFunc_bs (p : Nat → Bool) (rs : List Int) (h : ∀ r ∈ rs, Sc r) : decide (0 ≤ idxFunc p true (bs rs)) = rs.any fun r => p r.toNat :=
 idxFuncFrom_bs p (bs rs) rs _ [] h (by rw [bs_toList]; rfl) (by rw [bs_size]; exact Nat.le_refl _)
def runs (q : Int → Bool) : List Int → List Int → List (List Int)
 | cur, [] => if cur = [] then [] else [cur]
 | cur, r :: t => if q r then (if cur = [] then runs q [] t else cur :: runs q [] t) else runs q (cur ++ [r]) t
end Go.Gg
namespace Go.Gp
open Go Go.Gg

def Ev {α : Type} (g : Nat → Option α) (r : α) : Prop := ∃ K, ∀ k, K ≤ k → g k = some r

section
variable {α β : Type} {f g : Nat → Option α} {r : α}
theorem Ev.now (r : α) : Ev (fun _ => some r) r := ⟨0, fun _ _ => rfl⟩
theorem Ev.is {r r' : α} (h : Ev f r) (e : r = r') : Ev f r' := e ▸ h
theorem Ev.rounds (h : Ev f r) : ∃ k, f k = some r := h.elim fun K h => ⟨K, h K (Nat.le_refl K)⟩
theorem Ev.congr (h : ∀ k, f k = g k) (H : Ev g r) : Ev f r := by
  obtain ⟨K, H⟩ := H
  exact ⟨K, fun k hk => (h k).trans (H k hk)⟩
theorem Ev.step (h : ∀ k, f (k + 1) = g k) (H : Ev g r) : Ev f r := by
  obtain ⟨K, H⟩ := H
  refine ⟨K + 1, fun k hk => ?_⟩
  obtain ⟨k, rfl⟩ : ∃ j, k = j + 1 := ⟨k - 1, by omega⟩
  exact (h k).trans (H k (by omega))
theorem Ev.bind {f : Nat → Option β} {g : Nat → β → Option α} {b : β} (H : Ev f b) (H' : Ev (fun k => g k b) r) : Ev (fun k => (f k).bind (g k)) r := by
  obtain ⟨K, H⟩ := H
  obtain ⟨K', H'⟩ := H'
  refine ⟨max K K', fun k hk => ?_⟩
  show (f k).bind (g k) = some r
  rw [H k (by omega)]
  exact H' k (by omega)
theorem Ev.tell {f : Nat → Option β} {g : Nat → β → Option α} {b : β} (H : ∀ k, f k = some b) (H' : Ev (fun k => g k b) r) : Ev (fun k => (f k).bind (g k)) r :=
  Ev.bind ⟨0, fun k _ => H k⟩ H'
theorem Ev.name {β : Type} {g : Nat → β → Option α} {b : β} (H : ∀ v, v = b → Ev (fun k => g k v) r) : Ev (fun k => (some b).bind (g k)) r := H b rfl
theorem Ev.pos {c : Prop} [Decidable c] (h : c) (H : Ev f r) : Ev (fun k => if c then f k else g k) r := Ev.congr (fun _ => if_pos h) H
theorem Ev.neg {c : Prop} [Decidable c] (h : ¬ c) (H : Ev g r) : Ev (fun k => if c then f k else g k) r := Ev.congr (fun _ => if_neg h) H
theorem Ev.ite {c : Prop} [Decidable c] (h : c → Ev f r) (h' : ¬ c → Ev g r) : Ev (fun k => if c then f k else g k) r := by
  by_cases e : c
  · exact Ev.pos e (h e)
  · exact Ev.neg e (h' e)
theorem Ev.count {σ : Type} {F : Nat → σ → Int → Option α} (st : Nat → σ) (n : Nat)
    (body : ∀ i, i < n → ∀ r, Ev (fun k => F k (st (i + 1)) (i + 1 : Nat)) r → Ev (fun k => F k (st i) (i : Nat)) r)
    (last : Ev (fun k => F k (st n) (n : Nat)) r) : Ev (fun k => F k (st 0) 0) r := by
  have key : ∀ d i, i + d = n → Ev (fun k => F k (st i) (i : Nat)) r := by
    intro d
    induction d with
    | zero => intro i h; obtain rfl : i = n := by omega
              exact last
    | succ d ih => intro i h; exact body i (by omega) r (ih (i + 1) (by omega))
  exact key n 0 (by omega)
theorem Ev.loop {σ : Type} {F : Nat → σ → Option α} (I : σ → Nat → Prop) (Q : α → Prop)
    (body : ∀ s n, I s n → (∃ r, Q r ∧ Ev (fun k => F k s) r) ∨ ∃ s' n', n' < n ∧ I s' n' ∧ ∀ r, Ev (fun k => F k s') r → Ev (fun k => F k s) r)
    (s : σ) (n : Nat) (h : I s n) : ∃ r, Q r ∧ Ev (fun k => F k s) r := by
  induction n using Nat.strongRecOn generalizing s with
  | ind n ih =>
    rcases body s n h with ⟨r, hq, hr⟩ | ⟨s', n', hlt, hi, hs⟩
    · exact ⟨r, hq, hr⟩
    · obtain ⟨r, hq, hr⟩ := ih n' hlt s' hi
      exact ⟨r, hq, hs r hr⟩
end

theorem i64w {x : Int} (h : -9223372036854775808 ≤ x ∧ x < 9223372036854775808) : IntKind.i64.wrap x = x := by rw [IntKind.wrap_i64]; omega
theorem wrap_u8 (x : Int) : IntKind.u8.wrap x = x % 256 := by simp [IntKind.wrap, IntKind.bits, IntKind.signed]
theorem u8w {x : Int} (h : 0 ≤ x ∧ x < 256) : IntKind.u8.wrap x = x := by rw [wrap_u8]; omega
theorem getD_eq {α : Type} (xs : List α) (d : α) {i : Nat} (h : i < xs.length) : xs.getD i d = xs[i] := by simp [h]
theorem take_getD {α : Type} (xs : List α) (d : α) {i : Nat} (h : i < xs.length) : xs.take (i + 1) = xs.take i ++ [xs.getD i d] := by
  rw [List.take_succ_eq_append_getElem h, getD_eq xs d h]
theorem drop_getD {α : Type} (xs : List α) (d : α) {i : Nat} (h : i < xs.length) : xs.drop i = xs.getD i d :: xs.drop (i + 1) := by
  rw [List.drop_eq_getElem_cons h, getD_eq xs d h]
theorem getD_mem {α : Type} (xs : List α) (d : α) {i : Nat} (h : i < xs.length) : xs.getD i d ∈ xs := by
  rw [getD_eq xs d h]; exact List.getElem_mem h
theorem parts_getD {α : Type} (xs : List α) (d : α) {i : Nat} (h : i < xs.length) : xs = xs.take i ++ xs.getD i d :: xs.drop (i + 1) := by
  rw [← drop_getD xs d h, List.take_append_drop]
end Go.Gp
