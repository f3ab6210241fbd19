/- What is read is written in not much more bytes. -/
import Derived.Test.YtmgkpphbehamcaaGreatDoorPBack1
namespace Go.Proofs.YtmgkpphbehamcaaGreatDoor.Pure
open Go Go.Gg Go.Gp Gf
set_option linter.unusedVariables false
set_option linter.unusedSimpArgs false
theorem low_tab : (List.range 2048).all (fun n => decide (Lib.toLowerU (n : Int) < 65536) && (decide (128 ≤ n) || decide (0 ≤ Lib.toLowerU (n : Int) ∧ Lib.toLowerU (n : Int) < 128))) = true := by decide +kernel
theorem enc_le3 {r : Int} (h : r < 65536) : (Lib.encodeRune r).length ≤ 3 := by
 unfold Lib.encodeRune Lib.encodeRuneZ; rw [List.length_map]
 split
 ·simp
 ·split
  ·simp
  ·split
   ·simp
   ·split
    ·rename_i h4; omega
    ·simp
theorem enc_len_of {r : Int} (hr : Sc r) : (r < 128 → (Lib.encodeRune r).length = 1) ∧ (128 ≤ r → r < 2048 → (Lib.encodeRune r).length = 2) ∧ (2048 ≤ r → r < 65536 → (Lib.encodeRune r).length = 3) ∧ (65536 ≤ r → (Lib.encodeRune r).length = 4) := by
 unfold Sc at hr; unfold Lib.encodeRune Lib.encodeRuneZ; rw [List.length_map]; refine ⟨fun h => ?_, fun h h' => ?_, fun h h' => ?_, fun h => ?_⟩
 ·rw [if_pos (by omega)]; rfl
 ·rw [if_neg (by omega), if_pos (by omega)]; rfl
 ·rw [if_neg (by omega), if_neg (by omega), if_pos (by omega)]; rfl
 ·rw [if_neg (by omega), if_neg (by omega), if_neg (by omega), if_pos (by omega)]; rfl
theorem low_len {r : Int} (hr : Sc r) : 2 * (Lib.encodeRune (Lib.toLowerU r)).length ≤ 3 * (Lib.encodeRune r).length := by
 obtain ⟨a, b, c, d⟩ := enc_len_of hr; have h4 := (enc_len (Lib.toLowerU r)).2; have hr0 : 0 ≤ r := by unfold Sc at hr; omega
 by_cases h2 : r < 2048
 ·have := List.all_eq_true.1 low_tab r.toNat (List.mem_range.2 (by omega)); rw [Bool.and_eq_true, Bool.or_eq_true, decide_eq_true_eq, decide_eq_true_eq, decide_eq_true_eq] at this; have e : ((r.toNat : Nat) : Int) = r := by omega
  rw [e] at this; by_cases h1 : r < 128
  ·have hb : 0 ≤ Lib.toLowerU r ∧ Lib.toLowerU r < 128 := by
    rcases this.2 with h | h
    ·omega
    ·exact h
   have := (enc_len_of (r := Lib.toLowerU r) (.inl (by omega))).1 hb.2; rw [this, a h1]; omega
  ·have := enc_le3 this.1; rw [b (by omega) h2]; omega
 ·by_cases h3 : r < 65536
  ·rw [c (by omega) h3]; omega
  ·rw [d (by omega)]; omega
theorem enc_low : ∀ {rs : List Int}, (∀ r ∈ rs, Sc r) → 2 * (enc (rs.map Lib.toLowerU)).length ≤ 3 * (enc rs).length
 | [], _ => by simp [enc]
 | r :: t, h => by
  rw [List.map_cons, enc_cons, enc_cons, List.length_append, List.length_append]; have := low_len (h r (by simp)); have := enc_low (rs := t) (fun x hx => h x (by simp [hx])); omega
theorem normD_len3 (w : ByteArray) : 2 * (normD w).size ≤ 3 * w.size := by
 by_cases h : Lib.validD w.data.toList = true
 ·obtain ⟨rs, hr, rfl⟩ := valid_bs h; rw [normD_bs rs hr, bs_size, bs_size]; exact enc_low hr
 ·rw [normD_not (by simpa using h)]; show 2 * 0 ≤ _; omega
theorem decFrom_lt : ∀ (l : List UInt8) (a n : Nat), Lib.decFrom a l = some n → n < (a + 1) * 10 ^ l.length
 | [], a, n, h => by
  simp only [Lib.decFrom, Option.some.injEq] at h; subst h; simp
 | b :: t, a, n, h => by
  rw [Lib.decFrom] at h
  cases hb : Lib.digitVal b with
  | none => rw [hb] at h; cases h
  | some v =>
   rw [hb] at h; have hv : v < 10 := by
    unfold Lib.digitVal at hb
    split at hb
    ·rename_i hh
     have := Option.some.inj hb; omega
    ·cases hb
   have := decFrom_lt t _ n h; rw [List.length_cons, Nat.pow_succ]; have h2 : (a * 10 + v + 1) * 10 ^ t.length ≤ (a * 10 + 10) * 10 ^ t.length := Nat.mul_le_mul_right _ (by omega); have h3 : (a + 1) * (10 ^ t.length * 10) = (a * 10 + 10) * 10 ^ t.length := by
    rw [Nat.mul_comm (10 ^ t.length) 10, ← Nat.mul_assoc]
    congr 1
    omega
   omega
theorem numL_len {l : List UInt8} {n : Int} (h : numL l = some n) : (Lib.itoa n).length ≤ l.length := by
 have hd := numL_digs h; unfold numL at h
 split at h
 ·cases h
 rename_i hc
 have h0 : l ≠ [] := fun e => hc (.inl e)
 obtain ⟨m, hm, ha⟩ := atoi_dig h0 hd; rw [ha] at h; obtain rfl := Option.some.inj h; have := decFrom_lt l 0 m hm; obtain ⟨_, _, _, _, e⟩ := dec_all (m + 1) m (by omega); have hl : 1 ≤ l.length := by
  cases l with
  | nil => exact absurd rfl h0
  | cons => simp
 have h2 : Lib.itoa (m : Int) = Lib.decDigits m := by
  obtain ⟨u, hu, hh⟩ := itoa_digs (n := (m : Int)) (by omega); have : u = m := by omega
  rw [hh, this]
 rw [h2]; exact e l.length hl (by simpa using this)
theorem itoa_le {n : Int} (h0 : 0 ≤ n) (k : Nat) (hk : 1 ≤ k) (h : n < ((10 ^ k : Nat) : Int)) : (Lib.itoa n).length ≤ k := by
 obtain ⟨u, rfl, hu⟩ := itoa_digs h0; rw [hu]; obtain ⟨_, _, _, _, e⟩ := dec_all (u + 1) u (by omega); exact e k hk (by omega)
theorem wr_up : ∀ (d : Nat) (x : T26), SmallN d x → wrN (d + 1) x = wrN d x
 | 0, x, h => h.elim
 | d + 1, x, ⟨h1, h2, h3, h4⟩ => by
  rw [wrN, wrN]
  congr 1
  exact List.map_congr_left fun s hs => by rw [wr_up d s (h4 s hs)]
theorem wr_ups (d : Nat) (x : T26) (h : SmallN d x) : ∀ e, wrN (d + e) x = wrN d x
 | 0 => rfl
 | e + 1 => (wr_up (d + e) x (small_ups d x h e).1).trans (wr_ups d x h e)
theorem join_len1 (sep : List UInt8) : ∀ ls : List (List UInt8), ls ≠ [] → (Lib.join ls sep).length + sep.length ≤ (ls.map List.length).sum + ls.length * sep.length
 | [], h => absurd rfl h
 | [x], _ => by simp [Lib.join_one]
 | x :: y :: t, _ => by
  have h := join_len1 sep (y :: t) (by simp); rw [join_two]; simp only [List.length_append, List.map_cons, List.sum_cons, List.length_cons] at h ⊢; have : (t.length + 1 + 1) * sep.length = (t.length + 1) * sep.length + sep.length := by rw [Nat.add_mul, Nat.one_mul]
  omega
theorem with_mono (x : T26) (t : List UInt8) : t.length ≤ (withP 8 x t).length ∧ (withP 8 x t).length ≤ (withP 7 x t).length ∧ (withP 7 x t).length ≤ t.length + 4 ∧ (withP 9 x t).length = (withP 7 x t).length := by
 unfold withP; by_cases h8 : x.f0 = 8
 ·rw [if_pos (.inl h8), if_pos (.inl h8), if_pos (.inl h8)]; simp; omega
 ·by_cases h7 : x.f0 = 7
  ·rw [if_neg (by rintro (h | h); exact h8 h; exact h.2 rfl), if_pos (.inr ⟨h7, by decide⟩), if_pos (.inr ⟨h7, by decide⟩)]; simp; omega
  ·rw [if_neg (by rintro (h | h); exact h8 h; exact h7 h.1), if_neg (by rintro (h | h); exact h8 h; exact h7 h.1), if_neg (by rintro (h | h); exact h8 h; exact h7 h.1)]; simp
theorem with_leaf {x : T26} (h7 : x.f0 ≠ 7) (h8 : x.f0 ≠ 8) (k : Int) (t : List UInt8) : withP k x t = t := if_neg (by rintro (h | h); exact h8 h; exact h7 h.1)
def cons_ (p q : PS) : Int := (p.rest.length : Int) - (if q.over = true then 0 else (q.rest.length : Int) + 1)
theorem cons_take {p : PS} (h : (takeP p).bad = false) : cons_ p (takeP p) = (nextP p).length ∧ p.over = false := by
 have hle := nextP_le p; unfold cons_; unfold takeP at h ⊢; by_cases c0 : nextP p = []
 ·rw [if_pos c0] at h; cases h
 have ho := (nextP_no c0).1; rw [if_neg c0] at h ⊢; by_cases c1 : (nextP p).length = p.rest.length
 ·rw [if_pos c1]; exact ⟨by rw [if_pos rfl]; omega, ho⟩
 ·rw [if_neg c1] at h ⊢; by_cases c2 : p.rest[(nextP p).length]? = some 32
  ·rw [if_pos c2]; refine ⟨?_, ho⟩
   dsimp only
   rw [ho, if_neg (by decide), List.length_drop]; omega
  ·rw [if_neg c2] at h; cases h
theorem cons_add {p q r : PS} (h : q.over = false) : cons_ p r = cons_ p q + 1 + cons_ q r := by
 unfold cons_; rw [h, if_neg (by decide : ¬ false = true)]; omega
theorem words_len {k : Int} {ws : List ByteArray} {p : PS} (h : (wordsP k ws p).2.bad = false) : (wordsP k ws p).1 = ⟨k, 0, ws.map normD, []⟩ := by
 unfold wordsP at h ⊢
 split
 ·rfl
 ·rename_i c
  rw [if_neg c] at h; cases h
theorem sum_norm : ∀ ws : List (List UInt8), 2 * (((ws.map ba).map normD).map (fun w => w.data.toList.length)).sum ≤ 3 * (ws.map List.length).sum
 | [] => by simp
 | w :: t => by
  have h1 := normD_len3 (ba w); have h2 := sum_norm t; have h3 : (normD (ba w)).data.toList.length = (normD (ba w)).size := by rw [Array.length_toList]; rfl
  have h4 : (ba w).size = w.length := rfl; simp only [List.map_cons, List.sum_cons, h3]; omega
theorem split_sum (c : UInt8) : ∀ l : List UInt8, ((splitL c l).map List.length).sum + (splitL c l).length = l.length + 1
 | [] => rfl
 | b :: t => by
  have h := split_sum c t; rw [splitL]
  split
  ·simp only [List.map_cons, List.sum_cons, List.length_cons, List.length_nil]; omega
  ·cases hs : splitL c t with
   | nil => exact absurd hs (splitL_ne c t)
   | cons u r =>
    rw [hs] at h; simp only [List.map_cons, List.sum_cons, List.length_cons] at h ⊢; omega
theorem leaf_len {it : List UInt8} {p : PS} (hb : (leafP it p).2.bad = false) (d : Nat) : ((leafP it p).1.f0 ≠ 7 ∧ (leafP it p).1.f0 ≠ 8) ∧ 2 * (wrN (d + 1) (leafP it p).1).length ≤ 3 * it.length := by
 unfold leafP at hb ⊢
 split
 ·rename_i n e
  obtain ⟨t, ht, _, _⟩ := told_pre e; subst ht; have hn : numL t = some n := by
   unfold toldL at e; rw [if_pos (by simp [Lib.hasPrefix]), List.drop_left] at e; exact e
  refine ⟨by simp, ?_⟩; have := numL_len hn; show 2 * (FROM ++ Lib.itoa n).length ≤ _; simp only [List.length_append]; omega
 rename_i e1
 rw [e1] at hb
 split
 ·rename_i n e
  obtain ⟨t, ht, _, _⟩ := told_pre e; subst ht; have hn : numL t = some n := by
   unfold toldL at e; rw [if_pos (by simp [Lib.hasPrefix]), List.drop_left] at e; exact e
  refine ⟨by simp, ?_⟩; have := numL_len hn; show 2 * (SINCE ++ Lib.itoa n).length ≤ _; simp only [List.length_append]; omega
 rename_i e2
 rw [e2] at hb
 split
 ·rename_i n e
  obtain ⟨t, ht, _, _⟩ := told_pre e; subst ht; have hn : numL t = some n := by
   unfold toldL at e; rw [if_pos (by simp [Lib.hasPrefix]), List.drop_left] at e; exact e
  refine ⟨by simp, ?_⟩; have := numL_len hn; show 2 * (UNTIL ++ Lib.itoa n).length ≤ _; simp only [List.length_append]; omega
 rename_i e3
 rw [e3] at hb
 dsimp only at hb
 by_cases h0 : it.head? = some 34
 ·rw [if_pos h0] at hb ⊢; by_cases h1 : Lib.hasSuffix it.tail [34] = true
  ·rw [if_pos h1] at hb ⊢; rw [words_len hb]; refine ⟨by simp, ?_⟩; have hsuf : [34] <:+ it.tail := by simpa [Lib.hasSuffix] using h1
   obtain ⟨m, hm⟩ := hsuf; have hit : it.length = m.length + 2 := by
    cases it with
    | nil => cases h0
    | cons b t =>
     simp only [List.tail_cons] at hm; rw [← hm]; simp
   have hmid : it.tail.take (it.tail.length - 1) = m := by rw [← hm]; simp
   rw [hmid, splitW_eq]; have hs := split_sum 32 m; have hn := sum_norm (splitL 32 m); show 2 * ([34] ++ Lib.join ((((splitL 32 m).map ba).map normD).map fun w : ByteArray => w.data.toList) [32] ++ [34]).length ≤ _; have hXl : (((splitL 32 m).map ba).map normD).length = (splitL 32 m).length := by simp
   have hX0 : ((splitL 32 m).map ba).map normD ≠ [] := by simp [splitL_ne]
   generalize ((splitL 32 m).map ba).map normD = X at hn hXl hX0 ⊢; have hj := join_len1 [32] (X.map fun w : ByteArray => w.data.toList) (by simpa using hX0); have e : ((X.map fun w : ByteArray => w.data.toList).map List.length) = X.map (fun w => w.data.toList.length) := by rw [List.map_map]; rfl
   rw [e] at hj; simp only [List.length_append, List.length_singleton, List.length_map] at hj ⊢; omega
  ·rw [if_neg h1] at hb; cases hb
 ·rw [if_neg h0] at hb ⊢; by_cases h1 : Lib.hasSuffix it [42] = true
  ·rw [if_pos h1] at hb ⊢; rw [words_len hb]; refine ⟨by simp, ?_⟩; have hsuf : [42] <:+ it := by simpa [Lib.hasSuffix] using h1
   obtain ⟨m, hm⟩ := hsuf; have hmid : it.take (it.length - 1) = m := by rw [← hm]; simp
   have hit : it.length = m.length + 1 := by rw [← hm]; simp
   rw [hmid]; have h3 := normD_len3 (ba m); show 2 * ((normD (ba m)).data.toList ++ [42]).length ≤ _; rw [List.length_append, Array.length_toList]; have h4 : (normD (ba m)).data.size = (normD (ba m)).size := rfl; have h5 : (ba m).size = m.length := rfl; simp only [List.length_singleton]; omega
  ·rw [if_neg h1] at hb ⊢; rw [words_len hb]; refine ⟨by simp, ?_⟩; have h3 := normD_len3 (ba it); show 2 * ((normD (ba it)).data.toList).length ≤ _; rw [Array.length_toList]; exact h3
def LF (N d : Nat) (k : Int) (one : PS → T26 × PS) : Prop := ∀ p, p.rest.length ≤ N → (one p).2.bad = false → SmallN d (one p).1 ∧ p.over = false ∧ p.bad = false ∧ (one p).2.rest.length ≤ p.rest.length ∧ 2 * ((withP k (one p).1 (wrN d (one p).1)).length : Int) ≤ 3 * cons_ p (one p).2
def tot (d : Nat) (k : Int) (l : List T26) : Nat := (l.map fun x => (withP k x (wrN d x)).length).sum
theorem len_loop {N d : Nat} {k : Int} {one : PS → T26 × PS} (h : LF N d k one) (w : List UInt8) (hw : w ≠ []) (p0 : PS) : ∀ (n : Nat) (l : List T26) (p : PS), p.rest.length ≤ N → (∀ x ∈ l, SmallN d x) → 1 ≤ l.length → 2 * (tot d k l + (w.length + 2) * l.length : Int) ≤ 3 * cons_ p0 p + 2 * ((w.length : Int) + 2) →
  (loopP one w n l p).2.bad = false → (∀ x ∈ (loopP one w n l p).1, SmallN d x) ∧ 1 ≤ (loopP one w n l p).1.length ∧ (loopP one w n l p).2.rest.length ≤ p.rest.length ∧ 2 * (tot d k (loopP one w n l p).1 + (w.length + 2) * (loopP one w n l p).1.length : Int) ≤ 3 * cons_ p0 (loopP one w n l p).2 + 2 * ((w.length : Int) + 2)
 | 0, l, p, hN, hl, h1, hc, hb => by cases hb
 | n + 1, l, p, hN, hl, h1, hc, hb => by
  rw [loopP] at hb ⊢; by_cases ht : p.bad = false ∧ nextP p = w
  ·rw [if_pos ht] at hb ⊢; have hlt := take_lt (p := p) (by rw [ht.2]; exact hw); have hob : (one (takeP p)).2.bad = false := by
    cases hq : (one (takeP p)).2.bad with
    | false => rfl
    | true => rw [loop_bad one w n _ hq] at hb; cases hb
   obtain ⟨o1, o2, o3, o4, o5⟩ := h (takeP p) (by omega) hob; obtain ⟨t1, t2⟩ := cons_take (p := p) o3; rw [ht.2] at t1; have ec : cons_ p0 (one (takeP p)).2 = cons_ p0 p + 1 + ((w.length : Int) + 1 + cons_ (takeP p) (one (takeP p)).2) := by
    rw [cons_add (p := p0) (q := p) (r := (one (takeP p)).2) t2, cons_add (p := p) (q := takeP p) (r := (one (takeP p)).2) o2, t1]
   have et : tot d k (l ++ [(one (takeP p)).1]) = tot d k l + (withP k (one (takeP p)).1 (wrN d (one (takeP p)).1)).length := by
    unfold tot; rw [List.map_append, List.sum_append]; simp
   have el : ((l ++ [(one (takeP p)).1]).length : Int) = l.length + 1 := by simp
   have hm : ((w.length : Int) + 2) * ((l.length : Int) + 1) = ((w.length : Int) + 2) * l.length + ((w.length : Int) + 2) := by rw [Int.mul_add, Int.mul_one]
   obtain ⟨r1, r2, r3, r4⟩ := len_loop h w hw p0 n (l ++ [(one (takeP p)).1]) (one (takeP p)).2 (by omega) (fun x hx => by
    rcases List.mem_append.1 hx with hx | hx
    ·exact hl x hx
    ·simp at hx; rw [hx]; exact o1) (by simp) (by rw [et, el, hm, ec]; push_cast; omega) hb
   exact ⟨r1, r2, by omega, r4⟩
  ·rw [if_neg ht] at hb ⊢; exact ⟨hl, h1, Nat.le_refl _, hc⟩
theorem tot_join (d : Nat) (k : Int) (l : List T26) : ((l.map fun x => withP k x (wrN d x)).map List.length).sum = tot d k l := by
 unfold tot; rw [List.map_map]; rfl
theorem len_join {N d : Nat} (hN : N ≤ 900) {k : Int} {one : PS → T26 × PS} (h : LF N d k one) (ho : OK N d one) (w : List UInt8) (hw : w ≠ []) (kind k2 : Int) (n : Nat)
  (hself : ∀ (x : T26) t, (withP k2 x t).length ≤ (withP k x t).length) (hk : ∀ subs : List T26, (withP k2 ⟨kind, 0, [], subs⟩ (wrN (d + 1) ⟨kind, 0, [], subs⟩)) = Lib.join (subs.map fun s => withP k s (wrN d s)) (32 :: (w ++ [32]))) : LF N (d + 1) k2 (joinP one w kind n) := by
 intro p hp hb; have hOK := sm_join (by omega) ho w hw kind n p hp hb; unfold joinP at hb hOK ⊢
 dsimp only at hb hOK ⊢
 have hob : (one p).2.bad = false := by
  cases hq : (one p).2.bad with
  | false => rfl
  | true => have := loop_bad one w n [(one p).1] hq; rw [this] at hb; cases hb
 obtain ⟨o1, o2, o3, o4, o5⟩ := h p hp hob; have h0 : tot d k [(one p).1] = (withP k (one p).1 (wrN d (one p).1)).length := by simp [tot]
 obtain ⟨r1, r2, r3, r4⟩ := len_loop h w hw p n [(one p).1] (one p).2 (by omega) (fun x hx => by simp at hx; rw [hx]; exact o1) (by simp) (by rw [h0]; simp only [List.length_singleton]; omega) hb; refine ⟨hOK.2.1, o2, o3, by omega, ?_⟩; unfold pickK; by_cases h1 : (loopP one w n [(one p).1] (one p).2).1.length = 1
 ·rw [if_pos h1]; obtain ⟨x, hx⟩ := List.length_eq_one_iff.1 h1; rw [hx] at r1 r4 ⊢; have hsx := r1 x (by simp); have e : wrN (d + 1) x = wrN d x := wr_up d x hsx; show 2 * ((withP k2 x (wrN (d + 1) x)).length : Int) ≤ _; rw [e]; have := hself x (wrN d x); have ht : tot d k [x] = (withP k x (wrN d x)).length := by simp [tot]
  rw [ht] at r4; simp only [List.length_singleton] at r4; omega
 ·rw [if_neg h1, hk]; have hne : (loopP one w n [(one p).1] (one p).2).1 ≠ [] := fun e => by rw [e] at r2; simp at r2
  have hj := join_len1 (32 :: (w ++ [32])) ((loopP one w n [(one p).1] (one p).2).1.map fun s => withP k s (wrN d s)) (by simpa using hne); rw [tot_join, List.length_map] at hj; have es : (32 :: (w ++ [32])).length = w.length + 2 := by simp
  rw [es, Nat.mul_comm] at hj; have hj' : ((Lib.join ((loopP one w n [(one p).1] (one p).2).1.map fun s => withP k s (wrN d s)) (32 :: (w ++ [32]))).length : Int) + (w.length + 2) ≤ tot d k (loopP one w n [(one p).1] (one p).2).1 + (w.length + 2) * (loopP one w n [(one p).1] (one p).2).1.length := by exact_mod_cast hj
  omega
theorem and_text (d : Nat) (subs : List T26) : withP 8 ⟨7, 0, [], subs⟩ (wrN (d + 1) ⟨7, 0, [], subs⟩) = Lib.join (subs.map fun s => withP 7 s (wrN d s)) (32 :: (AND ++ [32])) := by
 have : withP 8 ⟨7, 0, [], subs⟩ (wrN (d + 1) ⟨7, 0, [], subs⟩) = wrN (d + 1) ⟨7, 0, [], subs⟩ := if_neg (by rintro (h | h); exact absurd h (by simp); exact h.2 rfl); rw [this]; rfl
theorem any_len {N d : Nat} (hN : N ≤ 900) {one : PS → T26 × PS} (h : LF N d 7 one) (ho : OK N d one) (n : Nat) (p : PS) (hp : p.rest.length ≤ N) (hb : (anyP one n p).2.bad = false) :
  SmallN (d + 2) (anyP one n p).1 ∧ p.over = false ∧ p.bad = false ∧ (anyP one n p).2.rest.length ≤ p.rest.length ∧ 2 * ((wrN (d + 2) (anyP one n p).1).length : Int) ≤ 3 * cons_ p (anyP one n p).2 := by
 have hall : LF N (d + 1) 8 (allP one n) := len_join hN h ho AND (by decide) 7 8 n (fun x t => (with_mono x t).2.1) (and_text d); have oall : OK N (d + 1) (allP one n) := sm_join (by omega) ho AND (by decide) 7 n; have hOK := sm_join (by omega) oall OR (by decide) 8 n p hp hb; unfold anyP at hb ⊢; unfold joinP at hb hOK ⊢
 dsimp only at hb hOK ⊢
 have hob : (allP one n p).2.bad = false := by
  cases hq : (allP one n p).2.bad with
  | false => rfl
  | true => have := loop_bad (allP one n) OR n [(allP one n p).1] hq; rw [this] at hb; cases hb
 obtain ⟨o1, o2, o3, o4, o5⟩ := hall p hp hob; have h0 : tot (d + 1) 8 [(allP one n p).1] = (withP 8 (allP one n p).1 (wrN (d + 1) (allP one n p).1)).length := by simp [tot]
 obtain ⟨r1, r2, r3, r4⟩ := len_loop hall OR (by decide) p n [(allP one n p).1] (allP one n p).2 (by omega) (fun x hx => by simp at hx; rw [hx]; exact o1) (by simp) (by rw [h0]; simp only [List.length_singleton]; omega) hb; refine ⟨hOK.2.1, o2, o3, by omega, ?_⟩; unfold pickK; by_cases h1 : (loopP (allP one n) OR n [(allP one n p).1] (allP one n p).2).1.length = 1
 ·rw [if_pos h1]; obtain ⟨x, hx⟩ := List.length_eq_one_iff.1 h1; rw [hx] at r1 r4 ⊢; have e : wrN (d + 1 + 1) x = wrN (d + 1) x := wr_up (d + 1) x (r1 x (by simp)); show 2 * ((wrN (d + 1 + 1) x).length : Int) ≤ _; rw [e]; have := (with_mono x (wrN (d + 1) x)).1; have ht : tot (d + 1) 8 [x] = (withP 8 x (wrN (d + 1) x)).length := by simp [tot]
  rw [ht] at r4; simp only [List.length_singleton] at r4; omega
 ·rw [if_neg h1]; show 2 * ((Lib.join ((loopP (allP one n) OR n [(allP one n p).1] (allP one n p).2).1.map fun s => withP 8 s (wrN (d + 1) s)) (32 :: (OR ++ [32]))).length : Int) ≤ _; have hne : (loopP (allP one n) OR n [(allP one n p).1] (allP one n p).2).1 ≠ [] := fun e => by rw [e] at r2; simp at r2
  have hj := join_len1 (32 :: (OR ++ [32])) ((loopP (allP one n) OR n [(allP one n p).1] (allP one n p).2).1.map fun s => withP 8 s (wrN (d + 1) s)) (by simpa using hne); rw [tot_join, List.length_map] at hj; have es : (32 :: (OR ++ [32])).length = OR.length + 2 := by simp
  rw [es, Nat.mul_comm] at hj; have hj' : ((Lib.join ((loopP (allP one n) OR n [(allP one n p).1] (allP one n p).2).1.map fun s => withP 8 s (wrN (d + 1) s)) (32 :: (OR ++ [32]))).length : Int) + (OR.length + 2) ≤ tot (d + 1) 8 (loopP (allP one n) OR n [(allP one n p).1] (allP one n p).2).1 + (OR.length + 2) * (loopP (allP one n) OR n [(allP one n p).1] (allP one n p).2).1.length := by exact_mod_cast hj
  omega
theorem one_len {N : Nat} (hN : N ≤ 200) : ∀ n, LF N (3 * n) 7 (oneP n)
 | 0 => fun p hp hb => by cases hb
 | n + 1 => fun p hp hb => by
  have ih := one_len hN n; have hOK := one_small hN (n + 1) p hp hb; obtain ⟨po, pb, _⟩ := one_con (n + 1) p hb; refine ⟨hOK.2.1, po, pb, by omega, ?_⟩; have hle := nextP_le p; rw [oneP] at hb ⊢; by_cases h1 : nextP p = NOT_
  ·rw [if_pos h1] at hb ⊢
   dsimp only at hb ⊢
   have hlt := take_lt (p := p) (by rw [h1]; decide); obtain ⟨o1, o2, o3, o4, o5⟩ := ih (takeP p) (by omega) hb; obtain ⟨t1, t2⟩ := cons_take (p := p) o3; rw [h1] at t1; rw [cons_add (p := p) (q := takeP p) o2, t1]; rw [with_leaf (by simp) (by simp)]; have e : wrN (3 * (n + 1)) ⟨9, 0, [], [(oneP n (takeP p)).1]⟩ = [78, 79, 84, 32] ++ withP 9 (oneP n (takeP p)).1 (wrN (3 * n + 2) (oneP n (takeP p)).1) := rfl; rw [e, wr_ups _ _ o1 2, List.length_append, (with_mono _ _).2.2.2]; simp only [NOT_, List.length_cons, List.length_nil]
   push_cast
   omega
  ·rw [if_neg h1] at hb ⊢; by_cases h2 : nextP p = [40]
   ·rw [if_pos h2] at hb ⊢; by_cases h3 : nextP (anyP (oneP n) n (takeP p)).2 = [41]
    ·rw [if_pos h3] at hb ⊢
     dsimp only at hb ⊢
     have hlt := take_lt (p := p) (by rw [h2]; decide); obtain ⟨xo, xb⟩ := nextP_no (p := (anyP (oneP n) n (takeP p)).2) (by rw [h3]; decide); obtain ⟨a1, a2, a3, a4, a5⟩ := any_len (by omega) ih (one_small hN n) n (takeP p) (by omega) xb; obtain ⟨t1, t2⟩ := cons_take (p := p) a3; obtain ⟨u1, u2⟩ := cons_take (p := (anyP (oneP n) n (takeP p)).2) hb; rw [h2] at t1; rw [h3] at u1; rw [cons_add (p := p) (q := takeP p) a2, t1, cons_add (p := takeP p) (q := (anyP (oneP n) n (takeP p)).2) xo, u1]; have e : wrN (3 * (n + 1)) (anyP (oneP n) n (takeP p)).1 = wrN (3 * n + 2) (anyP (oneP n) n (takeP p)).1 := wr_up (3 * n + 2) _ a1; rw [e]; have := (with_mono (anyP (oneP n) n (takeP p)).1 (wrN (3 * n + 2) (anyP (oneP n) n (takeP p)).1)).2.2.1; simp only [List.length_cons, List.length_nil]; omega
    ·rw [if_neg h3] at hb; cases hb
   ·rw [if_neg h2] at hb ⊢; by_cases h3 : (takeP p).bad = true
    ·rw [if_pos h3, h3] at hb; cases hb
    ·rw [if_neg h3] at hb ⊢; obtain ⟨⟨k7, k8⟩, hl⟩ := leaf_len hb (3 * n + 2); rw [(leaf_same (nextP p) (takeP p) (takeP p) hb).2.1, (cons_take (p := p) (by simpa using h3)).1, with_leaf k7 k8]; have e : 3 * (n + 1) = 3 * n + 2 + 1 := by omega
     rw [e]; omega
theorem write_small {s : List UInt8} (hs : s.length ≤ 100) (h : okP s = true) : (writeL 700 (readP s).1).length ≤ 200 := by
 have hX := ok_run h; obtain ⟨_, _, _, hm⟩ := ok_parts h; have hr : (readP s).1 = (rdP s).2 := by unfold readP; rw [if_pos h]
 rw [hr]; obtain ⟨m1, m2, m3⟩ := mayQ_parts hm; have hrg := aft_range m3; obtain ⟨a1, _, _, _, a5⟩ := any_len (N := 100) (by omega) (one_len (N := 100) (by omega) (s.length + 1)) (one_small (N := 100) (by omega) (s.length + 1)) (s.length + 1) ⟨s, false, false⟩ hs hX; have hc : cons_ ⟨s, false, false⟩ (runP s).2 ≤ s.length := by unfold cons_; split <;> dsimp only <;> omega
 have e : wrN 700 (runP s).1 = wrN (3 * (s.length + 1) + 2) (runP s).1 := by
  have := wr_ups (3 * (s.length + 1) + 2) (runP s).1 a1 (700 - (3 * (s.length + 1) + 2)); rw [show 3 * (s.length + 1) + 2 + (700 - (3 * (s.length + 1) + 2)) = 700 by omega] at this; exact this
 have hw : 2 * ((wrN 700 (runP s).1).length : Int) ≤ 3 * s.length := by
  rw [e]; have a5' : 2 * ((wrN (3 * (s.length + 1) + 2) (runP s).1).length : Int) ≤ 3 * cons_ ⟨s, false, false⟩ (runP s).2 := a5; omega
 have h4 := itoa_le (n := (rdP s).2.f4) (by omega) 2 (by decide) (by omega); have h5 := itoa_le (n := (rdP s).2.f5) (by omega) 1 (by decide) (by omega); have h6 := itoa_le (n := (rdP s).2.f6) (by omega) 4 (by decide) (by omega); have h7 := itoa_le (n := (rdP s).2.f7) (by omega) 13 (by decide) (by omega); have h8 := itoa_le (n := (rdP s).2.f8) (by omega) 5 (by decide) (by omega); have ha : (aftT (rdP s).2).length ≤ 33 := by
  unfold aftT
  split
  ·have hj := join_len1 [46] [Lib.itoa (rdP s).2.f7, Lib.itoa (rdP s).2.f8, Lib.itoa (rdP s).2.f5, Lib.itoa (rdP s).2.f6] (by simp); simp only [List.map_cons, List.map_nil, List.sum_cons, List.sum_nil, List.length_cons, List.length_nil] at hj; simp only [List.length_append, List.length_cons, List.length_nil]; omega
  ·simp
 unfold writeL; rw [rd_ask]; simp only [List.length_append, LIM, List.length_cons, List.length_nil]; omega
end Go.Proofs.YtmgkpphbehamcaaGreatDoor.Pure
