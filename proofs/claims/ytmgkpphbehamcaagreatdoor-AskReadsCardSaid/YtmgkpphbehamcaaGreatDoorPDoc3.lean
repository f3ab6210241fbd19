/- The document's reader in plain words: texts parted, numbers, words. -/
import Derived.Test.YtmgkpphbehamcaaGreatDoorPDoc2
namespace Go.Proofs.YtmgkpphbehamcaaGreatDoor.Pure
open Go Go.Gg Go.Gp Gf
set_option linter.unusedVariables false
set_option linter.unusedSimpArgs false
theorem bt_get {l : List UInt8} {i : Nat} (hi : i < l.length) : bt (ba l) (i : Int) = ((l.getD i 0).toNat : Int) := by
 unfold bt; rw [Int.toNat_natCast, dif_pos (show i < (ba l).size from hi), getD_eq _ _ hi]; rfl
theorem split_no {c : UInt8} : ∀ {l : List UInt8}, c ∉ l → splitL c l = [l]
 | [], _ => rfl
 | b :: t, h => by
  have hb : b ≠ c := fun e => h (by rw [e]; simp)
  rw [splitL, if_neg hb, split_no (fun e => h (List.mem_cons_of_mem _ e))]
theorem split_app {c : UInt8} : ∀ {a : List UInt8} (b : List UInt8), c ∉ a → splitL c (a ++ c :: b) = a :: splitL c b
 | [], b, _ => by simp [splitL]
 | x :: t, b, h => by
  have hb : x ≠ c := fun e => h (by rw [e]; simp)
  rw [List.cons_append, splitL, if_neg hb, split_app b (fun e => h (List.mem_cons_of_mem _ e))]
theorem nat_u8 {a b : UInt8} : ((a.toNat : Nat) : Int) = ((b.toNat : Nat) : Int) ↔ a = b := by
 constructor
 ·intro h; exact UInt8.toNat_inj.1 (by omega)
 ·rintro rfl; rfl
theorem rsplit_loop (l : List UInt8) (c : UInt8) (hl : l.length ≤ 1000000) : ∀ (n i f : Nat) (acc : List ByteArray), i + n = l.length → f ≤ i → c ∉ (l.take i).drop f → acc.length ≤ i →
  ∃ acc' f', Ev (fun k => grapevineref14_split_l0 (ba l) ((c.toNat : Nat) : Int) k acc ((f : Nat) : Int) ((i : Nat) : Int)) (acc', ((f' : Nat) : Int)) ∧ f' ≤ l.length ∧ acc'.length ≤ l.length ∧ acc' ++ [ba (l.drop f')] = acc ++ (splitL c (l.drop f)).map ba
 | 0, i, f, acc, hi, hf, hc, ha => by
  obtain rfl : i = l.length := by omega
  rw [List.take_length] at hc; exact ⟨acc, f, Ev.step (fun k => by rw [grapevineref14_split_l0, ba_size]) (Ev.neg (by omega) (Ev.now _)), hf, ha, by rw [split_no hc]; rfl⟩
 | n + 1, i, f, acc, hi, hf, hc, ha => by
  have hil : i < l.length := by omega
  have hd : l.drop f = (l.take i).drop f ++ l.getD i 0 :: l.drop (i + 1) := by
   have h := parts_getD l 0 hil; have h2 := congrArg (List.drop f) h; rw [List.drop_append_of_le_length (by rw [List.length_take]; omega)] at h2; exact h2
  have e1 : IntKind.i64.wrap ((i : Int) + 1) = ((i + 1 : Nat) : Int) := by rw [i64w (by omega)]; omega
  by_cases hb : l.getD i 0 = c
  ·obtain ⟨acc', f', h1, h2, h3, h4⟩ := rsplit_loop l c hl n (i + 1) (i + 1) (acc ++ [ba ((l.take i).drop f)]) (by omega) (Nat.le_refl _) (by rw [List.drop_eq_nil_of_le (by rw [List.length_take]; omega)]; simp) (by rw [List.length_append, List.length_singleton]; omega); refine ⟨acc', f', Ev.step (fun k => by rw [grapevineref14_split_l0, ba_size]) (Ev.pos (by omega) (Ev.pos (by omega) (Ev.pos (by rw [bt_get hil, hb]) (Ev.pos (by omega) (Ev.pos (by rw [List.length_singleton]; omega) ?_))))), h2, h3, ?_⟩
   ·refine Ev.bind (Ev.now _) ?_; simp only [e1, Int.toNat_natCast, ba_extract]; exact h1
   ·rw [h4, hd, hb, split_app _ hc]; simp
  ·obtain ⟨acc', f', h1, h2, h3, h4⟩ := rsplit_loop l c hl n (i + 1) f acc (by omega) (by omega) (by
    rw [take_getD l 0 hil, List.drop_append_of_le_length (by rw [List.length_take]; omega)]; simp only [List.mem_append, List.mem_singleton, not_or]; exact ⟨hc, fun e => hb e.symm⟩) (by omega)
   refine ⟨acc', f', Ev.step (fun k => by rw [grapevineref14_split_l0, ba_size]) (Ev.pos (by omega) (Ev.pos (by omega) (Ev.neg (by rw [bt_get hil, nat_u8]; exact hb) ?_))), h2, h3, h4⟩; simp only [e1]; exact h1
theorem rsplit_ev (l : List UInt8) (c : UInt8) (hl : l.length ≤ 1000000) : Ev (fun k => grapevineref14_split k (ba l) ((c.toNat : Nat) : Int)) ((splitL c l).map ba) := by
 obtain ⟨acc', f', h1, h2, h3, h4⟩ := rsplit_loop l c hl l.length 0 0 [] (by omega) (Nat.le_refl _) (by simp) (by simp); unfold grapevineref14_split; refine Ev.bind h1 ?_; have e : (ba l).extract ((f' : Nat) : Int).toNat ((ba l).size : Int).toNat = ba (l.drop f') := by
  rw [ba_extract, ba_size, Int.toNat_natCast, Int.toNat_natCast, List.take_length]
 dsimp only
 rw [e, ba_size]; refine Ev.pos (by omega) (Ev.pos (by rw [List.length_singleton]; omega) ((Ev.now _).is ?_)); rw [h4]; simp
theorem dig_iff (b : UInt8) : digs.contains b = decide (48 ≤ b.toNat ∧ b.toNat ≤ 57) := by
 have h : ∀ n, n < 256 → digs.contains (UInt8.ofNat n) = decide (48 ≤ (UInt8.ofNat n).toNat ∧ (UInt8.ofNat n).toNat ≤ 57) := by decide +kernel
 have := h b.toNat b.toNat_lt
 rwa [UInt8.ofNat_toNat] at this
theorem rnum_test {l : List UInt8} {i : Nat} (hil : i < l.length) (hl : l.length ≤ 1000000) :
  (if 0 ≤ (i : Int) ∧ (i : Int) < ((ba l).size : Int) then (if (bt (ba l) (i : Int)) < 48 then some true else (if 0 ≤ (i : Int) ∧ (i : Int) < ((ba l).size : Int) then (if (bt (ba l) (i : Int)) > 57 then some true else some (decide (((ba l).size : Int) > 13))) else none)) else none) =
  some (!(digs.contains (l.getD i 0)) || decide (13 < l.length)) := by
 rw [ba_size, if_pos (by omega), bt_get hil, dig_iff]; generalize (l.getD i 0).toNat = b; by_cases h1 : (b : Int) < 48
 ·rw [if_pos h1, decide_eq_false (by omega)]; rfl
 ·rw [if_neg h1, if_pos (by omega)]; by_cases h2 : (b : Int) > 57
  ·rw [if_pos h2, decide_eq_false (by omega)]; rfl
  ·rw [if_neg h2, decide_eq_true (p := 48 ≤ b ∧ b ≤ 57) (by omega)]; by_cases h3 : 13 < l.length
   ·rw [decide_eq_true h3, decide_eq_true (by omega)]; rfl
   ·rw [decide_eq_false h3, decide_eq_false (by omega)]; rfl
theorem rnum_bad (l : List UInt8) (hl : l.length ≤ 1000000) : ∀ (n i : Nat) (v : Int), i + n = l.length → (∃ j, i ≤ j ∧ j < l.length ∧ (digs.contains (l.getD j 0) = false ∨ 13 < l.length)) →
  Ev (fun k => grapevineref14_number_l0 (ba l) k v (i : Int)) (Sum.inl (0, false))
 | 0, i, v, hi, ⟨j, h1, h2, _⟩ => by omega
 | n + 1, i, v, hi, hj => by
  have hil : i < l.length := by omega
  refine Ev.step (fun k => by rw [grapevineref14_number_l0, rnum_test hil hl]) (Ev.pos (by rw [ba_size]; omega) (Ev.bind (Ev.now _) ?_))
  cases ht : (!(digs.contains (l.getD i 0)) || decide (13 < l.length)) with
  | true => exact Ev.pos rfl (Ev.now _)
  | false =>
   simp only [Bool.or_eq_false_iff, Bool.not_eq_false', decide_eq_false_iff_not] at ht; refine Ev.neg (by simp) (Ev.pos (by rw [ba_size]; omega) ?_); have e1 : IntKind.i64.wrap ((i : Int) + 1) = ((i + 1 : Nat) : Int) := by rw [i64w (by omega)]; omega
   rw [e1]; refine rnum_bad l hl n (i + 1) _ (by omega) ?_; obtain ⟨j, h1, h2, h3⟩ := hj; refine ⟨j, ?_, h2, h3⟩; by_cases e : i = j
   ·subst e; rcases h3 with h3 | h3
    ·rw [ht.1] at h3; cases h3
    ·exact absurd h3 ht.2
   ·omega
theorem rnum_good (l : List UInt8) (hl : l.length ≤ 13) (hd : ∀ b ∈ l, digs.contains b = true) (m : Nat) : ∀ (n i : Nat) (v : Nat), i + n = l.length → v < 10 ^ i → Lib.decFrom v (l.drop i) = some m →
  Ev (fun k => grapevineref14_number_l0 (ba l) k ((v : Nat) : Int) (i : Int)) (Sum.inr ((m : Nat) : Int))
 | 0, i, v, hi, hv, hm => by
  obtain rfl : i = l.length := by omega
  rw [List.drop_length] at hm; simp only [Lib.decFrom, Option.some.injEq] at hm; subst hm; exact Ev.step (fun k => by rw [grapevineref14_number_l0]) (Ev.neg (by rw [ba_size]; omega) (Ev.now _))
 | n + 1, i, v, hi, hv, hm => by
  have hil : i < l.length := by omega
  have hdi := hd _ (getD_mem l 0 hil); refine Ev.step (fun k => by rw [grapevineref14_number_l0, rnum_test hil (by omega)]) (Ev.pos (by rw [ba_size]; omega) (Ev.bind (Ev.now _) ?_)); rw [hdi, decide_eq_false (by omega)]; refine Ev.neg (by simp) (Ev.pos (by rw [ba_size]; omega) ?_); have e1 : IntKind.i64.wrap ((i : Int) + 1) = ((i + 1 : Nat) : Int) := by rw [i64w (by omega)]; omega
  rw [dig_iff] at hdi; have hdi := of_decide_eq_true hdi; have hp : 10 ^ (i + 1) ≤ 10 ^ 13 := Nat.pow_le_pow_right (by decide) (by omega); rw [Nat.pow_succ] at hp; have e2 : (10 : Nat) ^ 13 = 10000000000000 := by decide
  rw [e2] at hp; have e3 : IntKind.i64.wrap ((IntKind.i64.wrap (((v : Nat) : Int) * 10)) + (IntKind.i64.wrap (IntKind.u8.wrap ((bt (ba l) (i : Int)) - 48)))) = ((v * 10 + ((l.getD i 0).toNat - 48) : Nat) : Int) := by
   rw [bt_get hil]; generalize (l.getD i 0).toNat = b at hdi; generalize (10 : Nat) ^ i = P at hv hp; rw [u8w (by omega), i64w (x := (b : Int) - 48) (by omega), i64w (x := (v : Int) * 10) (by omega), i64w (by omega)]; omega
  rw [e1, e3]; refine rnum_good l hl hd m n (i + 1) _ (by omega) ?_ ?_
  ·rw [Nat.pow_succ]; generalize (10 : Nat) ^ i = P at hv; omega
  ·rw [drop_getD l 0 hil, Lib.decFrom] at hm; have hv2 : Lib.digitVal (l.getD i 0) = some ((l.getD i 0).toNat - 48) := if_pos hdi; rw [hv2] at hm; exact hm
def NumR (o : Option Int) (r : Int × Bool) : Prop := r.2 = o.isSome ∧ ∀ n, o = some n → r.1 = n
theorem rnumber_ev (l : List UInt8) (hl : l.length ≤ 1000000) : ∃ r, Ev (fun k => grapevineref14_number k (ba l)) r ∧ NumR (numL l) r := by
 unfold grapevineref14_number; by_cases h : (∀ b ∈ l, digs.contains b = true) ∧ l.length ≤ 13
 ·obtain ⟨hd, h13⟩ := h; by_cases h0 : l = []
  ·subst h0; refine ⟨(0, false), Ev.bind (b := Sum.inr 0) (Ev.step (fun k => by rw [grapevineref14_number_l0]) (Ev.neg (by decide) (Ev.now _))) ?_, rfl, fun n hn => by cases hn⟩; exact Ev.bind (Ev.neg (by decide) (Ev.now _)) (Ev.now _)
  ·obtain ⟨m, hm, hat⟩ := atoi_dig h0 hd; have hpos : 1 ≤ l.length := by cases l with | nil => exact absurd rfl h0 | cons => simp
   have hg := rnum_good l h13 hd m l.length 0 0 (by omega) (by decide) (by rw [List.drop_zero]; exact hm); by_cases h1 : l.length = 1
   ·refine ⟨((m : Int), true), Ev.bind hg (Ev.bind (Ev.pos (by rw [ba_size]; omega) (Ev.pos (by rw [ba_size]; omega) (Ev.now _))) (Ev.now _)), ?_⟩; have : numL l = some (m : Int) := by
     unfold numL; rw [if_neg, hat]; rintro (e | e | e | e)
     ·exact h0 e
     ·omega
     ·obtain ⟨b, rfl⟩ := List.length_eq_one_iff.1 h1; simp at e
     ·exact e (trim_none hd)
    rw [this]; exact ⟨rfl, fun n hn => Option.some.inj hn⟩
   ·have hb0 : bt (ba l) 0 = ((l.getD 0 0).toNat : Int) := bt_get (i := 0) (by omega); refine ⟨((m : Int), decide (l.getD 0 0 ≠ 48)), Ev.bind hg (Ev.bind (b := ((m : Int), decide (l.getD 0 0 ≠ 48))) (Ev.pos (by rw [ba_size]; omega) (Ev.neg (by rw [ba_size]; omega) (Ev.pos (by rw [ba_size]; omega) ((Ev.now _).is ?_)))) (Ev.now _)), ?_⟩
    ·rw [hb0]
     congr 1
     have : ((l.getD 0 0).toNat : Int) = 48 ↔ l.getD 0 0 = 48 := nat_u8 (b := 48); by_cases e : l.getD 0 0 = 48
     ·rw [decide_eq_false (by simpa using e), this.2 e]; rfl
     ·rw [decide_eq_true e, bne_iff_ne]; exact fun e2 => e (this.1 e2)
    ·obtain ⟨b, t, rfl⟩ : ∃ b t, l = b :: t := by cases l with | nil => exact absurd rfl h0 | cons b t => exact ⟨b, t, rfl⟩
     have hne : (b :: t : List UInt8) ≠ [48] := fun e => h1 (by rw [e]; rfl)
     have : numL (b :: t) = if b = 48 then none else some (m : Int) := by
      unfold numL; by_cases e : b = 48
      ·rw [if_pos (.inr (.inr (.inl ⟨by simp [e], hne⟩))), if_pos e]
      ·rw [if_neg e, if_neg, hat]; rintro (e2 | e2 | e2 | e2)
       ·cases e2
       ·omega
       ·exact e (by simpa using e2.1)
       ·exact e2 (trim_none hd)
     rw [this]; by_cases e : b = 48
     ·rw [if_pos e]; exact ⟨by simp [e], fun n hn => by cases hn⟩
     ·rw [if_neg e]; exact ⟨by simp [e], fun n hn => Option.some.inj hn⟩
 ·have hnone : numL l = none := by
   unfold numL; rw [if_pos]; by_cases h13 : 13 < l.length
   ·exact .inr (.inl h13)
   ·refine .inr (.inr (.inr fun e => h ⟨trim_all e, by omega⟩))
  refine ⟨(0, false), Ev.bind (b := Sum.inl (0, false)) (rnum_bad l hl l.length 0 0 (by omega) ?_) (Ev.now _), ?_⟩
  ·by_cases h13 : 13 < l.length
   ·exact ⟨0, Nat.le_refl _, by omega, .inr h13⟩
   ·have : ¬ ∀ b ∈ l, digs.contains b = true := fun e => h ⟨e, by omega⟩
    have : ∃ b ∈ l, digs.contains b = false := by
     apply Classical.byContradiction; intro hn; refine this fun b hb => ?_
     cases hc : digs.contains b with
     | true => rfl
     | false => exact absurd ⟨b, hb, hc⟩ hn
    obtain ⟨b, hb, hc⟩ := this; obtain ⟨j, hj, rfl⟩ := List.getElem_of_mem hb; exact ⟨j, Nat.zero_le _, hj, .inl (by rw [getD_eq _ _ hj]; exact hc)⟩
  ·rw [hnone]; exact ⟨rfl, fun n hn => by cases hn⟩
theorem pre_take {it w : List UInt8} : Lib.hasPrefix it w = true ↔ w.length ≤ it.length ∧ it.take w.length = w := by
 rw [← Lib.hasPrefix_of_take]; simp
theorem rbehind_ev (it w : List UInt8) (hl : it.length ≤ 1000000) : ∃ r, Ev (fun k => grapevineref14_behind k (ba it) (ba w)) r ∧ NumR (toldL it w) r := by
 unfold grapevineref14_behind toldL; rw [ba_size, ba_size]; have he : (ba it).extract (0 : Int).toNat (w.length : Int).toNat = ba (it.take w.length) := by rw [ba_extract, Int.toNat_natCast]; rfl
 have hx : (ba it).extract (w.length : Int).toNat (it.length : Int).toNat = ba (it.drop w.length) := by rw [ba_extract, Int.toNat_natCast, Int.toNat_natCast, List.take_length]
 rw [he, hx, ba_beq]; have none_ok : NumR none (0, false) := ⟨rfl, fun n hn => by cases hn⟩; by_cases h1 : it.length ≤ w.length
 ·refine ⟨(0, false), Ev.bind (Ev.pos (by omega) (Ev.now _)) (Ev.pos rfl (Ev.now _)), ?_⟩; by_cases hp : Lib.hasPrefix it w = true
  ·rw [if_pos hp, List.drop_eq_nil_of_le h1]; exact none_ok
  ·rw [if_neg hp]; exact none_ok
 ·by_cases h2 : it.take w.length = w
  ·rw [if_pos (pre_take.2 ⟨by omega, h2⟩)]; obtain ⟨r, hr, hn⟩ := rnumber_ev (it.drop w.length) (by rw [List.length_drop]; omega); refine ⟨r, Ev.bind (Ev.neg (by omega) (Ev.pos (by omega) (Ev.now _))) (Ev.neg (by simp [h2]) (Ev.pos (by omega) (Ev.bind hr (Ev.now _)))), hn⟩
  ·rw [if_neg (fun e => h2 (pre_take.1 e).2)]; exact ⟨(0, false), Ev.bind (Ev.neg (by omega) (Ev.pos (by omega) (Ev.now _))) (Ev.pos (by simp [h2]) (Ev.now _)), none_ok⟩
theorem rplain_ev (w : ByteArray) (hs : w.size < 4294967296) : ∃ r, Ev (fun k => grapevineref14_plain k w) r ∧ r.2 = okW 1 w ∧ (r.2 = true → r.1 = normD w) := by
 unfold grapevineref14_plain okW; have s1 : (w.toList == (⟨#[65, 78, 68]⟩ : ByteArray).toList) = decide (w = ba [65, 78, 68]) := toList_beq _ _; have s2 : (w.toList == (⟨#[79, 82]⟩ : ByteArray).toList) = decide (w = ba [79, 82]) := toList_beq _ _; have s3 : (w.toList == (⟨#[78, 79, 84]⟩ : ByteArray).toList) = decide (w = ba [78, 79, 84]) := toList_beq _ _; rw [s1, s2, s3]; have hsg : signB w = (decide (w = ba [65, 78, 68]) || (decide (w = ba [79, 82]) || decide (w = ba [78, 79, 84]))) := rfl; have h13 : decide ((1 : Int) = 3) = false := by decide
 have ht : Ev (fun k => (if decide (w = ba [65, 78, 68]) = true then some true else (if decide (w = ba [79, 82]) = true then some true else (if decide (w = ba [78, 79, 84]) = true then some true else ((grapevineref1_One k w).bind fun t6 => some (!t6)))))) (signB w || !(oneD w)) := by
  rw [hsg]; by_cases a : w = ba [65, 78, 68]
  ·exact Ev.pos (by simp [a]) ((Ev.now _).is (by simp [a]))
  refine Ev.neg (by simp [a]) ?_; by_cases b : w = ba [79, 82]
  ·exact Ev.pos (by simp [b]) ((Ev.now _).is (by simp [b]))
  refine Ev.neg (by simp [b]) ?_; by_cases c : w = ba [78, 79, 84]
  ·exact Ev.pos (by simp [c]) ((Ev.now _).is (by simp [c]))
  refine Ev.neg (by simp [c]) (Ev.bind (rOne_ev hs) ((Ev.now _).is (by simp [a, b, c])))
 rw [h13]
 cases hc : (signB w || !(oneD w)) with
 | true =>
  rw [hc] at ht; refine ⟨(⟨#[]⟩, false), Ev.bind ht (Ev.pos rfl (Ev.now _)), ?_, fun e => by cases e⟩
  cases hs : signB w <;> cases ho : oneD w <;> simp [hs, ho] at hc ⊢
 | false =>
  rw [hc] at ht; refine ⟨(normD w, true), Ev.bind ht (Ev.neg (by simp) (Ev.bind (rNorm_norm hs) (Ev.now _))), ?_, fun _ => rfl⟩
  cases hs : signB w <;> cases ho : oneD w <;> simp [hs, ho] at hc ⊢
theorem rphrase_loop (ws : List ByteArray) (hl : ws.length ≤ 1000000) (hw : ∀ w ∈ ws, w.size < 4294967296) : ∀ (n i : Nat) (acc : List ByteArray), i + n = ws.length → acc.length ≤ i →
  Ev (fun k => grapevineref14_phrase_l0 ws k acc (i : Int)) (if (ws.drop i).all oneD = true then Sum.inr (acc ++ (ws.drop i).map normD) else Sum.inl ([], false))
 | 0, i, acc, hi, ha => by
  obtain rfl : i = ws.length := by omega
  rw [List.drop_length]; exact Ev.step (fun k => by rw [grapevineref14_phrase_l0]) (Ev.neg (by omega) ((Ev.now _).is (by simp)))
 | n + 1, i, acc, hi, ha => by
  have hil : i < ws.length := by omega
  have hm := hw _ (getD_mem ws ⟨#[]⟩ hil); have e1 : IntKind.i64.wrap ((i : Int) + 1) = ((i + 1 : Nat) : Int) := by rw [i64w (by omega)]; omega
  refine Ev.step (fun k => by rw [grapevineref14_phrase_l0]) (Ev.pos (by omega) (Ev.pos (by omega) ?_)); rw [Int.toNat_natCast, drop_getD ws ⟨#[]⟩ hil, List.all_cons]; refine Ev.bind (rOne_ev hm) ?_
  cases ho : oneD (ws.getD i ⟨#[]⟩) with
  | false => exact Ev.pos rfl ((Ev.now _).is (by simp))
  | true =>
   refine Ev.neg (by simp) (Ev.pos (by omega) (Ev.bind (rNorm_norm hm) (Ev.pos (by rw [List.length_singleton]; omega) ?_))); rw [e1]; refine (rphrase_loop ws hl hw n (i + 1) _ (by omega) (by rw [List.length_append, List.length_singleton]; omega)).is ?_; simp
theorem rphrase_ev (m : List UInt8) (hl : m.length ≤ 100000) : ∃ r, Ev (fun k => grapevineref14_phrase k (ba m)) r ∧ r.2 = (splitW 32 m).all oneD ∧ (r.2 = true → r.1 = (splitW 32 m).map normD) := by
 unfold grapevineref14_phrase; have hsp := rsplit_ev m 32 (by omega); rw [← splitW_eq] at hsp; have hlen := split_len 32 m; have hlp := rphrase_loop (splitW 32 m) (by omega) (fun w hw => by
  have := split_size (ba [32]) 0 _ _ w hw; rw [ba_size] at this; omega) (splitW 32 m).length 0 [] (by omega) (by simp)
 rw [List.drop_zero, List.nil_append] at hlp
 cases ho : (splitW 32 m).all oneD with
 | true =>
  rw [ho] at hlp; exact ⟨_, Ev.bind hsp (Ev.bind hlp (Ev.now _)), rfl, fun _ => rfl⟩
 | false =>
  rw [ho] at hlp; exact ⟨_, Ev.bind hsp (Ev.bind hlp (Ev.now _)), rfl, fun e => by cases e⟩
end Go.Proofs.YtmgkpphbehamcaaGreatDoor.Pure
