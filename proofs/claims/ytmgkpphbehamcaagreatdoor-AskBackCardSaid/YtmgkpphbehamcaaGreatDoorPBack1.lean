/- What is written is read as it was: numbers, words, and what has no Subs. -/
import Derived.Test.YtmgkpphbehamcaaGreatDoorPBrk
import Derived.Test.YtmgkpphbehamcaaGreatDoorPWr2
import Derived.Lib.ItoaMem
namespace Go.Proofs.YtmgkpphbehamcaaGreatDoor.Pure
open Go Go.Gg Go.Gp Gf
set_option linter.unusedVariables false
set_option linter.unusedSimpArgs false

theorem dig_tab : (List.range 10).all (fun u => decide (Lib.digitVal (UInt8.ofNat (48 + u)) = some u) && (digs.contains (UInt8.ofNat (48 + u)) && (decide (UInt8.ofNat (48 + u) = 48) == decide (u = 0)))) = true := by decide +kernel
theorem dig_at {u : Nat} (h : u < 10) : Lib.digitVal (UInt8.ofNat (48 + u)) = some u ∧ digs.contains (UInt8.ofNat (48 + u)) = true ∧ (UInt8.ofNat (48 + u) = 48 → u = 0) := by
  have := List.all_eq_true.1 dig_tab u (List.mem_range.2 h)
  rw [Bool.and_eq_true, Bool.and_eq_true] at this
  obtain ⟨a, b, c⟩ := this
  refine ⟨of_decide_eq_true a, b, fun e => ?_⟩
  rw [decide_eq_true e, beq_iff_eq] at c
  exact of_decide_eq_true c.symm
theorem decFrom_snoc {v : Nat} {b : UInt8} (hb : Lib.digitVal b = some v) : ∀ (l : List UInt8) (acc a : Nat), Lib.decFrom acc l = some a → Lib.decFrom acc (l ++ [b]) = some (a * 10 + v)
  | [], acc, a, h => by
    simp only [Lib.decFrom, Option.some.injEq] at h
    subst h
    simp [Lib.decFrom, hb]
  | c :: t, acc, a, h => by
    rw [Lib.decFrom] at h
    rw [List.cons_append, Lib.decFrom]
    cases hc : Lib.digitVal c with
    | none => rw [hc] at h; cases h
    | some d =>
      rw [hc] at h
      exact decFrom_snoc hb t _ a h
theorem dec_all (n : Nat) : ∀ u, u < n → Lib.decFrom 0 (Lib.decDigits u) = some u ∧ (∀ b ∈ Lib.decDigits u, digs.contains b = true) ∧ Lib.decDigits u ≠ [] ∧ ((Lib.decDigits u).head? = some 48 → u = 0) ∧ ∀ k, 1 ≤ k → u < 10 ^ k → (Lib.decDigits u).length ≤ k := by
  induction n with
  | zero => intro u h; omega
  | succ n ih =>
    intro u hu
    rw [Lib.decDigits]
    by_cases h : u < 10
    · rw [dif_pos h]
      obtain ⟨a, b, c⟩ := dig_at h
      generalize UInt8.ofNat (48 + u) = z at a b c ⊢
      refine ⟨by simp [Lib.decFrom, a], by simpa using b, by simp, fun e => c (by simpa using e), fun k hk _ => by simpa using hk⟩
    · rw [dif_neg h]
      obtain ⟨a, b, c, d, e⟩ := ih (u / 10) (by omega)
      obtain ⟨a', b', c'⟩ := dig_at (u := u % 10) (by omega)
      generalize UInt8.ofNat (48 + u % 10) = z at a' b' c' ⊢
      refine ⟨?_, ?_, by simp, ?_, ?_⟩
      · rw [decFrom_snoc a' _ _ _ a]
        congr 1
        omega
      · intro x hx
        rcases List.mem_append.1 hx with hx | hx
        · exact b x hx
        · simp at hx; rw [hx]; exact b'
      · intro h4
        cases hd : Lib.decDigits (u / 10) with
        | nil => exact absurd hd c
        | cons x t =>
          rw [hd] at h4 d
          have := d (by simpa using h4)
          omega
      · intro k hk hlt
        obtain ⟨j, rfl⟩ : ∃ j, k = j + 1 := ⟨k - 1, by omega⟩
        have hj : 1 ≤ j := by
          rcases Nat.eq_zero_or_pos j with rfl | h'
          · simp at hlt; omega
          · exact h'
        have := e j hj (by rw [Nat.pow_succ] at hlt; omega)
        rw [List.length_append, List.length_singleton]
        omega
theorem itoa_digs {n : Int} (h0 : 0 ≤ n) : ∃ u : Nat, n = u ∧ Lib.itoa n = Lib.decDigits u := by
  refine ⟨n.toNat, by omega, ?_⟩
  unfold Lib.itoa
  rw [if_neg (by omega)]
theorem numL_itoa {n : Int} (h0 : 0 ≤ n) (h1 : n < 10000000000000) : numL (Lib.itoa n) = some n := by
  obtain ⟨u, rfl, hu⟩ := itoa_digs h0
  rw [hu]
  obtain ⟨a, b, c, d, e⟩ := dec_all (u + 1) u (by omega)
  obtain ⟨m, hm, hat⟩ := atoi_dig c b
  have hmu : m = u := by rw [a] at hm; exact (Option.some.inj hm).symm
  subst hmu
  unfold numL
  rw [if_neg, hat]
  rintro (h | h | ⟨h, h2⟩ | h)
  · exact c h
  · have := e 13 (by omega) (by have : (10 : Nat) ^ 13 = 10000000000000 := by decide
                                omega)
    omega
  · have := d h
    subst this
    exact h2 (by rw [Lib.decDigits, dif_pos (by decide)]; rfl)
  · exact h (trim_none b)
theorem itoa_dig {n : Int} (h0 : 0 ≤ n) : (∀ b ∈ Lib.itoa n, digs.contains b = true) ∧ Lib.itoa n ≠ [] := by
  obtain ⟨u, rfl, hu⟩ := itoa_digs h0
  rw [hu]
  obtain ⟨a, b, c, d, e⟩ := dec_all (u + 1) u (by omega)
  exact ⟨b, c⟩
theorem itoa_no {n : Int} (h0 : 0 ≤ n) {c : UInt8} (hc : digs.contains c = false) : c ∉ Lib.itoa n := fun h => by
  have := (itoa_dig h0).1 c h
  rw [hc] at this; cases this
theorem split_no {c : UInt8} : ∀ {l : List UInt8}, c ∉ l → splitL c l = [l]
  | [], _ => rfl
  | b :: t, h => by
    have hb : b ≠ c := fun e => h (by rw [e]; simp)
    rw [splitL, if_neg hb, split_no (fun e => h (List.mem_cons_of_mem _ e))]
theorem split_app {c : UInt8} : ∀ {a : List UInt8} (b : List UInt8), c ∉ a → splitL c (a ++ c :: b) = a :: splitL c b
  | [], b, _ => by simp [splitL]
  | x :: t, b, h => by
    have hb : x ≠ c := fun e => h (by rw [e]; simp)
    rw [List.cons_append, splitL, if_neg hb, split_app b (fun e => h (List.mem_cons_of_mem _ e))]
theorem join_two (x y : List UInt8) (t : List (List UInt8)) (sep : List UInt8) : Lib.join (x :: y :: t) sep = x ++ (sep ++ Lib.join (y :: t) sep) := by
  rw [Lib.join_cons, Lib.join_cons]
  simp [Lib.joinTail]
theorem split_join {c : UInt8} : ∀ {ws : List (List UInt8)}, ws ≠ [] → (∀ w ∈ ws, c ∉ w) → splitL c (Lib.join ws [c]) = ws
  | [], h, _ => absurd rfl h
  | [x], _, h => by rw [Lib.join_one]; exact split_no (h x (by simp))
  | x :: y :: t, _, h => by
    rw [join_two]
    show splitL c (x ++ c :: Lib.join (y :: t) [c]) = _
    rw [split_app _ (h x (by simp)), split_join (by simp) (fun w hw => h w (by simp at hw ⊢; exact .inr hw))]
theorem join_no {b : UInt8} {sep : List UInt8} (hs : b ∉ sep) : ∀ {ws : List (List UInt8)}, (∀ w ∈ ws, b ∉ w) → b ∉ Lib.join ws sep
  | [], _ => by rw [Lib.join_nil]; simp
  | [x], h => by rw [Lib.join_one]; exact h x (by simp)
  | x :: y :: t, h => by
    rw [join_two]
    intro hm
    rcases List.mem_append.1 hm with hm | hm
    · exact h x (by simp) hm
    · rcases List.mem_append.1 hm with hm | hm
      · exact hs hm
      · exact join_no hs (fun w hw => h w (by simp at hw ⊢; exact .inr hw)) hm
theorem wordOK_parts {w : ByteArray} (h : wordOK w = true) : w.size ≤ 40 ∧ oneD w = true ∧ normD w = w := by
  unfold wordOK at h
  rw [Bool.and_eq_true, Bool.and_eq_true] at h
  exact ⟨of_decide_eq_true h.1, h.2.1, of_decide_eq_true h.2.2⟩
theorem word_no {w : ByteArray} (h : wordOK w = true) {b : UInt8} (hb : b.toNat < 128) (ho : oth (b.toNat : Int) = true) : b ∉ w.data.toList := one_no (w := w.data.toList) hb ho (wordOK_parts h).2.1
theorem o32 : oth ((32 : UInt8).toNat : Int) = true := by decide +kernel
theorem o34 : oth ((34 : UInt8).toNat : Int) = true := by decide +kernel
theorem o40 : oth ((40 : UInt8).toNat : Int) = true := by decide +kernel
theorem o42 : oth ((42 : UInt8).toNat : Int) = true := by decide +kernel
theorem empty_no : oneD (ba []) = false := by decide +kernel
theorem word_ne {w : ByteArray} (h : wordOK w = true) : w.data.toList ≠ [] := by
  intro e
  have : w = ba [] := by rw [← ba_of w, e]
  have h1 := (wordOK_parts h).2.1
  rw [this, empty_no] at h1
  cases h1
theorem sign_tab : normD (ba AND) ≠ ba AND ∧ normD (ba OR) ≠ ba OR ∧ normD (ba NOT_) ≠ ba NOT_ := by
  refine ⟨?_, ?_, ?_⟩ <;> decide +kernel
theorem word_sign {w : ByteArray} (h : wordOK w = true) : signB w = false := by
  have hn := (wordOK_parts h).2.2
  obtain ⟨a, b, c⟩ := sign_tab
  unfold signB
  rw [decide_eq_false (fun e => a (by have e' : w = ba AND := e; rw [e'] at hn; exact hn)), decide_eq_false (fun e => b (by have e' : w = ba OR := e; rw [e'] at hn; exact hn)), decide_eq_false (fun e => c (by have e' : w = ba NOT_ := e; rw [e'] at hn; exact hn))]
  rfl
theorem word_okW {w : ByteArray} (h : wordOK w = true) (k : Int) : okW k w = true := by
  unfold okW
  rw [(wordOK_parts h).2.1, word_sign h]
  simp
theorem head_no {l : List UInt8} {c : UInt8} (h : c ∉ l) : l.head? ≠ some c := fun e => h (List.mem_of_mem_head? e)
theorem no_colon {it w : List UInt8} (hw : 58 ∈ w) (h : 58 ∉ it) : toldL it w = none := by
  cases ht : toldL it w with
  | none => rfl
  | some n =>
    obtain ⟨d, hd, _⟩ := told_pre ht
    exact absurd (by rw [hd]; exact List.mem_append_left _ hw) h
theorem tell_word {w d : List UInt8} {n : Int} (h : numL d = some n) : toldL (w ++ d) w = some n := by
  unfold toldL
  rw [if_pos (by simp [Lib.hasPrefix]), List.drop_left]
  exact h
theorem lf_word {w : ByteArray} (h : wordOK w = true) (p : PS) : leafP w.data.toList p = (⟨1, 0, [w], []⟩, p) := by
  have hc := word_no h (b := 58) (by decide) colon
  have h34 := head_no (word_no h (b := 34) (by decide) o34)
  have h42 : ¬ Lib.hasSuffix w.data.toList [42] = true := fun e => by
    have : [42] <:+ w.data.toList := by simpa [Lib.hasSuffix] using e
    exact word_no h (b := 42) (by decide) o42 (this.subset (by simp))
  unfold leafP
  rw [no_colon (by decide) hc, no_colon (by decide) hc, no_colon (by decide) hc]
  dsimp only
  rw [if_neg h34, if_neg h42]
  unfold wordsP
  have e : ba w.data.toList = w := rfl
  rw [e, if_pos (by simpa using word_okW h 1)]
  simp [(wordOK_parts h).2.2]
theorem lf_prefix {w : ByteArray} (h : wordOK w = true) (p : PS) : leafP (w.data.toList ++ [42]) p = (⟨2, 0, [w], []⟩, p) := by
  have hc : 58 ∉ w.data.toList ++ [42] := by have := word_no h (b := 58) (by decide) colon; simpa using this
  have h34 : (w.data.toList ++ [42]).head? ≠ some 34 := head_no (by have := word_no h (b := 34) (by decide) o34; simpa using this)
  have h42 : Lib.hasSuffix (w.data.toList ++ [42]) [42] = true := by simp [Lib.hasSuffix]
  unfold leafP
  rw [no_colon (by decide) hc, no_colon (by decide) hc, no_colon (by decide) hc]
  dsimp only
  rw [if_neg h34, if_pos h42]
  unfold wordsP
  have e : ba ((w.data.toList ++ [42]).take ((w.data.toList ++ [42]).length - 1)) = w := by
    have : (w.data.toList ++ [42]).take ((w.data.toList ++ [42]).length - 1) = w.data.toList := by simp
    rw [this]; rfl
  rw [e, if_pos (by simpa using word_okW h 2)]
  simp [(wordOK_parts h).2.2]
theorem lf_phrase {ws : List ByteArray} (h0 : ws ≠ []) (h : ∀ w ∈ ws, wordOK w = true) (p : PS) : leafP (34 :: (Lib.join (ws.map (·.data.toList)) [32] ++ [34])) p = (⟨3, 0, ws, []⟩, p) := by
  unfold leafP
  rw [told_head rfl (rfl : FROM = 102 :: _) (by decide), told_head rfl (rfl : SINCE = 115 :: _) (by decide), told_head rfl (rfl : UNTIL = 117 :: _) (by decide)]
  dsimp only
  have hh : (34 :: (Lib.join (ws.map (·.data.toList)) [32] ++ [34])).head? = some (34 : UInt8) := rfl
  have h1 : Lib.hasSuffix (34 :: (Lib.join (ws.map (·.data.toList)) [32] ++ [34])).tail [34] = true := by simp [Lib.hasSuffix]
  rw [if_pos hh, if_pos h1]
  have e : (34 :: (Lib.join (ws.map (·.data.toList)) [32] ++ [34])).tail.take ((34 :: (Lib.join (ws.map (·.data.toList)) [32] ++ [34])).tail.length - 1) = Lib.join (ws.map (·.data.toList)) [32] := by simp
  rw [e, splitW_eq, split_join (by simpa using h0) (fun w hw => by
    obtain ⟨v, hv, rfl⟩ := List.mem_map.1 hw
    exact word_no (h v hv) (by decide) o32)]
  have e2 : (ws.map (·.data.toList)).map ba = ws := by rw [List.map_map]; exact List.map_id' ws
  rw [e2]
  unfold wordsP
  have hn : ws.map normD = ws := by
    conv => rhs; rw [← List.map_id ws]
    exact List.map_congr_left fun w hw => (wordOK_parts (h w hw)).2.2
  rw [if_pos (List.all_eq_true.2 fun w hw => word_okW (h w hw) 3), hn]
theorem lf_from {n : Int} (h0 : 0 ≤ n) (h1 : n < 10000000000000) (p : PS) : leafP (FROM ++ Lib.itoa n) p = (⟨4, n, [], []⟩, p) := by
  unfold leafP
  rw [tell_word (numL_itoa h0 h1)]
theorem lf_since {n : Int} (h0 : 0 ≤ n) (h1 : n < 10000000000000) (p : PS) : leafP (SINCE ++ Lib.itoa n) p = (⟨5, n, [], []⟩, p) := by
  have e1 : toldL (SINCE ++ Lib.itoa n) FROM = none := told_head (rfl : SINCE ++ Lib.itoa n = 115 :: _) (rfl : FROM = 102 :: _) (by decide)
  unfold leafP
  rw [e1, tell_word (numL_itoa h0 h1)]
theorem lf_until {n : Int} (h0 : 0 ≤ n) (h1 : n < 10000000000000) (p : PS) : leafP (UNTIL ++ Lib.itoa n) p = (⟨6, n, [], []⟩, p) := by
  have e1 : toldL (UNTIL ++ Lib.itoa n) FROM = none := told_head (rfl : UNTIL ++ Lib.itoa n = 117 :: _) (rfl : FROM = 102 :: _) (by decide)
  have e2 : toldL (UNTIL ++ Lib.itoa n) SINCE = none := told_head (rfl : UNTIL ++ Lib.itoa n = 117 :: _) (rfl : SINCE = 115 :: _) (by decide)
  unfold leafP
  rw [e1, e2, tell_word (numL_itoa h0 h1)]
def Item (it : List UInt8) : Prop := ∀ r, nextP ⟨it ++ 32 :: r, false, false⟩ = it ∧ takeP ⟨it ++ 32 :: r, false, false⟩ = ⟨r, false, false⟩
theorem item_of {it : List UInt8} (h0 : it ≠ []) (h : ∀ r, itemL (it ++ 32 :: r) = it) : Item it := fun r => by
  have hn : nextP ⟨it ++ 32 :: r, false, false⟩ = it := by unfold nextP; rw [if_neg (by simp)]; exact h r
  refine ⟨hn, ?_⟩
  unfold takeP
  rw [hn, if_neg h0]
  simp
theorem item_no {it : List UInt8} (h0 : it ≠ []) (h34 : it.head? ≠ some 34) (h32 : 32 ∉ it) : Item it := item_of h0 fun r => by
  rw [item_app (fun e => h34 e.1)]
  unfold itemL
  rw [if_neg (fun e => h34 e.1)]
  exact takeWhile_self _ _ fun x hx => by simp only [bne_iff_ne, ne_eq]; exact fun e => h32 (e ▸ hx)
theorem item_phrase {j : List UInt8} (h : 34 ∉ j) : Item (34 :: (j ++ [34])) := item_of (by simp) fun r => by
  unfold itemL
  rw [if_pos (by simp)]
  simp only [List.cons_append, List.tail_cons, List.append_assoc]
  congr 1
  have : (j ++ 34 :: ([] ++ 32 :: r)).takeWhile (· != 34) = j := by
    rw [List.takeWhile_append_of_pos (fun x hx => by simp only [bne_iff_ne, ne_eq]; exact fun e => h (e ▸ hx))]
    simp
  rw [this]
end Go.Proofs.YtmgkpphbehamcaaGreatDoor.Pure
