/- What is read without a limit or a cursor has none in its text. -/
import Derived.Test.YtmgkpphbehamcaaGreatDoorF4
import Derived.Test.YtmgkpphbehamcaaGreatDoorPAwk
namespace Go.Proofs.YtmgkpphbehamcaaGreatDoor.Pure
open Go Go.Gg Go.Gp Gf
set_option linter.unusedVariables false
set_option linter.unusedSimpArgs false
def splitL (c : UInt8) : List UInt8 → List (List UInt8)
 | [] => [[]]
 | b :: t => if b = c then [] :: splitL c t else match splitL c t with
  | [] => [[b]]
  | h :: r => (b :: h) :: r
theorem splitL_ne (c : UInt8) : ∀ l, splitL c l ≠ []
 | [] => by simp [splitL]
 | b :: t => by
  rw [splitL]
  split
  ·simp
  ·split <;> simp
theorem splitK_eq (c : UInt8) : ∀ l : List UInt8, Lib.splitK [c] 0 (l.count c) l = splitL c l
 | [] => rfl
 | b :: t => by
  have ih := splitK_eq c t; rw [splitL]; by_cases h : b = c
  ·subst h; rw [if_pos rfl, List.count_cons_self, Lib.splitK]; have hi : Lib.index (b :: t) [b] = 0 := by rw [Lib.index]; simp [List.isPrefixOf]
   rw [hi, if_neg (by decide)]; simp [ih]
  ·rw [if_neg h, List.count_cons_of_ne (fun e => h e)]
   cases hk : t.count c with
   | zero =>
    rw [hk, Lib.splitK] at ih; rw [← ih, Lib.splitK]
   | succ k =>
    rw [hk] at ih; have hm : c ∈ t := List.count_pos_iff.1 (by omega); have hi : Lib.index t [c] = ((t.takeWhile (· != c)).length : Int) := by rw [index_one, indexByte_eq, if_pos hm]
    have hi2 : Lib.index (b :: t) [c] = ((t.takeWhile (· != c)).length : Int) + 1 := by
     rw [index_one, indexByte_eq, if_pos (List.mem_cons_of_mem _ hm)]; simp [List.takeWhile_cons, h]
    generalize (t.takeWhile (· != c)).length = j at hi hi2; rw [Lib.splitK, hi, if_neg (by rw [beq_iff_eq]; omega)] at ih; rw [← ih, Lib.splitK, hi2, if_neg (by rw [beq_iff_eq]; omega)]; have e1 : ((j : Int) + 1).toNat = j + 1 := by omega
    have e2 : (j : Int).toNat = j := by omega
    rw [e1, e2]; simp only [Nat.add_zero, List.take_succ_cons, List.length_singleton, List.drop_succ_cons]
theorem splitW_eq (c : UInt8) (l : List UInt8) : splitW c l = (splitL c l).map ba := by
 unfold splitW; have h := Lib.splitB_data (ba [c]) 0 (Lib.countB (ba l) (ba [c])) (ba l); have hc : Lib.countB (ba l) (ba [c]) = l.count c := Lib.count_one c l; rw [hc] at h ⊢; have h2 : (Lib.splitB (ba [c]) 0 (l.count c) (ba l)).map (fun x => x.data.toList) = splitL c l := h.trans (splitK_eq c l); rw [← h2, List.map_map]; exact (List.map_id' _).symm
theorem splitL_mem {c b : UInt8} (hb : b ≠ c) : ∀ l : List UInt8, b ∈ l → ∃ w ∈ splitL c l, b ∈ w
 | [], h => by cases h
 | x :: t, h => by
  rw [splitL]; by_cases hx : x = c
  ·rw [if_pos hx]; have ht : b ∈ t := by
    rcases List.mem_cons.1 h with h | h
    ·exact absurd (h.trans hx) hb
    ·exact h
   obtain ⟨w, hw, hm⟩ := splitL_mem hb t ht; exact ⟨w, List.mem_cons_of_mem _ hw, hm⟩
  ·rw [if_neg hx]
   cases hs : splitL c t with
   | nil => exact absurd hs (splitL_ne c t)
   | cons u r =>
    dsimp only
    rcases List.mem_cons.1 h with h | h
    ·exact ⟨x :: u, List.mem_cons_self, by rw [h]; exact List.mem_cons_self⟩
    ·obtain ⟨w, hw, hm⟩ := splitL_mem hb t h; rw [hs] at hw; rcases List.mem_cons.1 hw with rfl | hw
     ·exact ⟨x :: w, List.mem_cons_self, List.mem_cons_of_mem _ hm⟩
     ·exact ⟨w, List.mem_cons_of_mem _ hw, hm⟩
theorem enc_byte {b : UInt8} (hb : b.toNat < 128) {r : Int} (hr : Sc r) (h : b ∈ Lib.encodeRune r) : r = (b.toNat : Int) := by
 unfold Lib.encodeRune at h; obtain ⟨x, hx, he⟩ := List.mem_map.1 h; have hn : ∀ y : Int, 128 ≤ y → y < 256 → y.toNat.toUInt8 = b → False := by
  intro y h1 h2 e; have h3 := toBn y (by omega) h2; rw [e] at h3; omega
 unfold Lib.encodeRuneZ at hx; unfold Sc at hr
 split at hx
 ·rename_i h0
  simp at hx; subst hx; have h3 := toBn x (by omega) (by omega); rw [he] at h3; omega
 ·split at hx
  ·simp at hx; rcases hx with rfl | rfl
   ·exact (hn _ (by omega) (by omega) he).elim
   ·exact (hn _ (by omega) (by omega) he).elim
  ·split at hx
   ·simp at hx; rcases hx with rfl | rfl | rfl
    ·exact (hn _ (by omega) (by omega) he).elim
    ·exact (hn _ (by omega) (by omega) he).elim
    ·exact (hn _ (by omega) (by omega) he).elim
   ·split at hx
    ·simp at hx; rcases hx with rfl | rfl | rfl | rfl
     ·exact (hn _ (by omega) (by omega) he).elim
     ·exact (hn _ (by omega) (by omega) he).elim
     ·exact (hn _ (by omega) (by omega) he).elim
     ·exact (hn _ (by omega) (by omega) he).elim
    ·omega
theorem one_no {b : UInt8} (hb : b.toNat < 128) (ho : oth (b.toNat : Int) = true) {w : List UInt8} (h : oneD (ba w) = true) : b ∉ w := by
 intro hm; unfold oneD at h; rw [Bool.and_eq_true, Bool.and_eq_true] at h; obtain ⟨h1, _, h3⟩ := h; obtain ⟨rs, hr, he⟩ := valid_bs h1; rw [he, runesOf_bs rs hr] at h3; have hw : w = enc rs := by have := congrArg (fun z => z.data.toList) he; rw [bs_toList] at this; exact this
 rw [hw] at hm; unfold enc at hm; obtain ⟨r, hrm, hbr⟩ := List.mem_flatMap.1 hm; have := enc_byte hb (hr r hrm) hbr; have h4 := List.all_eq_true.1 h3 r hrm; rw [this, ho] at h4
 cases h4
def noLim (l : List UInt8) : Prop := ∀ i, ¬ LIMIT <+: l.drop i ∧ ¬ AFTER <+: l.drop i
theorem pre_app {L a b : List UInt8} (hL : (32 : UInt8) ∉ L) (h : L <+: a ++ 32 :: b) : L <+: a := by
 obtain ⟨t, ht⟩ := h; by_cases hl : L.length ≤ a.length
 ·exact List.prefix_of_prefix_length_le ⟨t, ht⟩ (List.prefix_append _ _) hl
 ·exfalso; have : (L ++ t)[a.length]? = (a ++ 32 :: b)[a.length]? := by rw [ht]
  rw [List.getElem?_append_left (by omega), List.getElem?_append_right (Nat.le_refl _), Nat.sub_self] at this; exact hL (List.mem_of_getElem? (this.trans rfl))
theorem noLim_app {a b : List UInt8} (ha : noLim a) (hb : noLim b) : noLim (a ++ 32 :: b) := by
 intro i; by_cases hi : i ≤ a.length
 ·rw [List.drop_append_of_le_length hi]; exact ⟨fun h => (ha i).1 (pre_app (by decide) h), fun h => (ha i).2 (pre_app (by decide) h)⟩
 ·have : (a ++ 32 :: b).drop i = b.drop (i - (a.length + 1)) := by
   rw [List.drop_append]; have e : i - a.length = (i - (a.length + 1)) + 1 := by omega
   rw [e, List.drop_succ_cons, List.drop_of_length_le (by omega), List.nil_append]
  rw [this]; exact hb _
theorem noLim_of {l : List UInt8} (h : ∀ j, l[j + 1]? = some 58 → l[j]? ≠ some 116 ∧ l[j]? ≠ some 114) : noLim l := by
 have key : ∀ (L : List UInt8) (x : UInt8) (i : Nat), L[4]? = some x → L[5]? = some 58 → L <+: l.drop i → l[i + 4]? = some x ∧ l[i + 4 + 1]? = some 58 := by
  intro L x i h4 h5 ⟨t, ht⟩; have e4 : (L ++ t)[4]? = (l.drop i)[4]? := by rw [ht]
  have e5 : (L ++ t)[5]? = (l.drop i)[5]? := by rw [ht]
  have hl : 5 < L.length := (List.getElem?_eq_some_iff.1 h5).1; rw [List.getElem?_append_left (by omega), List.getElem?_drop] at e4 e5; exact ⟨e4 ▸ h4, e5 ▸ h5⟩
 intro i; refine ⟨fun hp => ?_, fun hp => ?_⟩
 ·obtain ⟨a, b⟩ := key LIMIT 116 i rfl rfl hp; exact (h _ b).1 a
 ·obtain ⟨a, b⟩ := key AFTER 114 i rfl rfl hp; exact (h _ b).2 a
theorem noLim_no {l : List UInt8} (h : 58 ∉ l) : noLim l := noLim_of fun j hj => absurd (List.mem_of_getElem? hj) h
theorem colon : oth ((58 : UInt8).toNat : Int) = true := by decide +kernel
theorem numL_digs {l : List UInt8} {n : Int} (h : numL l = some n) : ∀ b ∈ l, digs.contains b = true := by
 unfold numL at h
 split at h
 ·cases h
 ·rename_i hc
  exact trim_all (by
   cases ht : Lib.trimS l digs with
   | nil => rfl
   | cons a b => exact absurd (.inr (.inr (.inr (by rw [ht]; simp)))) hc)
theorem told_noLim {it w : List UInt8} {n : Int} (h : toldL it w = some n) (hw : ∀ j, w[j + 1]? = some 58 → j + 2 = w.length) (hl : ∃ x, w[w.length - 2]? = some x ∧ x ≠ 116 ∧ x ≠ 114) (h0 : w[0]? ≠ some 58) : noLim it := by
 unfold toldL at h
 split at h
 case isFalse => cases h
 rename_i hp
 have hpre : w <+: it := by simpa [Lib.hasPrefix] using hp
 obtain ⟨t, rfl⟩ := hpre; rw [List.drop_left] at h; have hd := numL_digs h; refine noLim_of fun j hj => ?_
 by_cases hjw : j + 1 < w.length
 ·rw [List.getElem?_append_left hjw] at hj; have := hw j hj; obtain ⟨x, hx, h1, h2⟩ := hl; have e : j = w.length - 2 := by omega
  rw [List.getElem?_append_left (by omega), e, hx]; exact ⟨fun e => h1 (Option.some.inj e), fun e => h2 (Option.some.inj e)⟩
 ·rw [List.getElem?_append_right (by omega)] at hj; have := hd 58 (List.mem_of_getElem? hj); exact absurd this (by decide)
theorem words_ok {k : Int} {ws : List ByteArray} {p : PS} (h : (wordsP k ws p).2.bad = false) : ∀ w ∈ ws, oneD w = true := by
 unfold wordsP at h
 split at h
 ·rename_i ha
  intro w hw; have := List.all_eq_true.1 ha w hw; unfold okW at this; rw [Bool.and_eq_true] at this; exact this.1
 ·cases h
theorem leaf_noLim {it : List UInt8} {p : PS} (h : (leafP it p).2.bad = false) : noLim it := by
 unfold leafP at h
 split at h
 ·rename_i n e
  refine told_noLim e (fun j hj => ?_) ⟨109, rfl, by decide, by decide⟩ (by decide); have hl : j + 1 < FROM.length := (List.getElem?_eq_some_iff.1 hj).1; simp only [FROM, List.length_cons, List.length_nil] at hl ⊢; obtain rfl | rfl | rfl | rfl : j = 0 ∨ j = 1 ∨ j = 2 ∨ j = 3 := by omega
  all_goals first | rfl | (exfalso; revert hj; decide)
 split at h
 ·rename_i n e
  refine told_noLim e (fun j hj => ?_) ⟨101, rfl, by decide, by decide⟩ (by decide); have hl : j + 1 < SINCE.length := (List.getElem?_eq_some_iff.1 hj).1; simp only [SINCE, List.length_cons, List.length_nil] at hl ⊢; obtain rfl | rfl | rfl | rfl | rfl : j = 0 ∨ j = 1 ∨ j = 2 ∨ j = 3 ∨ j = 4 := by omega
  all_goals first | rfl | (exfalso; revert hj; decide)
 split at h
 ·rename_i n e
  refine told_noLim e (fun j hj => ?_) ⟨108, rfl, by decide, by decide⟩ (by decide); have hl : j + 1 < UNTIL.length := (List.getElem?_eq_some_iff.1 hj).1; simp only [UNTIL, List.length_cons, List.length_nil] at hl ⊢; obtain rfl | rfl | rfl | rfl | rfl : j = 0 ∨ j = 1 ∨ j = 2 ∨ j = 3 ∨ j = 4 := by omega
  all_goals first | rfl | (exfalso; revert hj; decide)
 refine noLim_no ?_
 split at h
 ·rename_i h0
  split at h
  ·rename_i h1
   cases it with
   | nil => cases h0
   | cons b t =>
    obtain rfl : b = 34 := by simpa using h0
    simp only [List.tail_cons] at h h1; have hsuf : [34] <:+ t := by simpa [Lib.hasSuffix] using h1
    obtain ⟨m, rfl⟩ := hsuf; have hm : (m ++ [34]).take ((m ++ [34]).length - 1) = m := by simp
    rw [hm] at h; have hok := words_ok h; rw [splitW_eq] at hok; intro hc; simp at hc; obtain ⟨w, hw, hwm⟩ := splitL_mem (c := 32) (by decide) m hc; exact one_no (by decide) colon (hok (ba w) (List.mem_map.2 ⟨w, hw, rfl⟩)) hwm
  ·cases h
 ·split at h
  ·rename_i h1
   have hsuf : [42] <:+ it := by simpa [Lib.hasSuffix] using h1
   obtain ⟨m, rfl⟩ := hsuf; have hm : (m ++ [42]).take ((m ++ [42]).length - 1) = m := by simp
   rw [hm] at h; have hok := words_ok h (ba m) (by simp); intro hc; simp at hc; exact one_no (by decide) colon hok hc
  ·exact one_no (by decide) colon (words_ok h (ba it) (by simp))
def Con (p q : PS) : Prop := (q.over = false → ∃ c, p.rest = c ++ 32 :: q.rest ∧ noLim c) ∧ (q.over = true → noLim p.rest)
theorem Con.trans {p q r : PS} (h : Con p q) (hq : q.over = false) (k : Con q r) : Con p r := by
 obtain ⟨c, hc, hn⟩ := h.1 hq; refine ⟨fun ho => ?_, fun ho => ?_⟩
 ·obtain ⟨d, hd, hm⟩ := k.1 ho; exact ⟨c ++ 32 :: d, by rw [hc, hd]; simp, noLim_app hn hm⟩
 ·rw [hc]; exact noLim_app hn (k.2 ho)
theorem itemL_pre (l : List UInt8) : itemL l <+: l := by
 unfold itemL
 split
 ·rename_i h
  obtain ⟨h1, h2⟩ := h
  cases l with
  | nil => cases h1
  | cons b t =>
   obtain rfl : b = 34 := by simpa using h1
   simp only [List.tail_cons] at h2 ⊢; rw [List.prefix_cons_inj]; have key : ∀ u : List UInt8, (34 : UInt8) ∈ u → u.takeWhile (· != 34) ++ [34] <+: u := by
    intro u
    induction u with
    | nil => intro h; cases h
    | cons x v ih =>
     intro hm; by_cases hx : x = 34
     ·subst hx; simp
     ·have hv : (34 : UInt8) ∈ v := by
       rcases List.mem_cons.1 hm with h | h
       ·exact absurd h.symm hx
       ·exact h
      have hx' : (x != 34) = true := by simpa using hx
      rw [List.takeWhile_cons, if_pos hx', List.cons_append, List.prefix_cons_inj]; exact ih hv
   exact key t h2
 ·exact List.takeWhile_prefix _
theorem nextP_pre (p : PS) : nextP p <+: p.rest := by
 unfold nextP
 split
 ·exact List.nil_prefix
 ·exact itemL_pre _
theorem take_con {p : PS} (h : (takeP p).bad = false) (hn : noLim (nextP p)) : Con p (takeP p) := by
 obtain ⟨t, ht⟩ := nextP_pre p; have hle := nextP_le p; unfold takeP at h ⊢; by_cases c0 : nextP p = []
 ·rw [if_pos c0] at h; cases h
 rw [if_neg c0] at h ⊢; by_cases c1 : (nextP p).length = p.rest.length
 ·rw [if_pos c1]; refine ⟨fun e => (by cases e), fun _ => ?_⟩; have : t = [] := by
   have := congrArg List.length ht; rw [List.length_append] at this; exact List.eq_nil_of_length_eq_zero (by omega)
  rw [← ht, this, List.append_nil]; exact hn
 ·rw [if_neg c1] at h ⊢; have ho := (nextP_no c0).1; by_cases c2 : p.rest[(nextP p).length]? = some 32
  ·rw [if_pos c2]; refine ⟨fun _ => ⟨nextP p, ?_, hn⟩, fun e => by simp [ho] at e⟩; show p.rest = nextP p ++ 32 :: p.rest.drop ((nextP p).length + 1); have hlt : (nextP p).length < p.rest.length := by omega
   have e1 : p.rest.take (nextP p).length = nextP p := by
    conv => lhs; rw [← ht]
    exact List.take_left
   have e2 := List.drop_eq_getElem_cons hlt; rw [List.getElem?_eq_getElem hlt] at c2; rw [Option.some.inj c2] at e2
   conv => lhs; rw [← List.take_append_drop (nextP p).length p.rest, e1, e2]
  ·rw [if_neg c2] at h; cases h
theorem over_bad {n : Nat} {p : PS} (h : p.over = true) : (oneP n p).2.bad = true := by
 cases n with
 | zero => rfl
 | succ n =>
  have hn : nextP p = [] := by unfold nextP; rw [if_pos (.inl h)]
  rw [oneP, hn, if_neg (by decide), if_neg (by decide), if_pos (over_take h)]; exact over_take h
def ConF (one : PS → T26 × PS) : Prop := ∀ p, (one p).2.bad = false → p.over = false ∧ p.bad = false ∧ Con p (one p).2
theorem loop_con {one : PS → T26 × PS} (h : ConF one) (w : List UInt8) (hw : w ≠ []) (hn : noLim w) (p0 : PS) : ∀ (n : Nat) (l : List T26) (p : PS), Con p0 p → (loopP one w n l p).2.bad = false → p.bad = false ∧ Con p0 (loopP one w n l p).2
 | 0, l, p, hc, hb => by cases hb
 | n + 1, l, p, hc, hb => by
  have hpb : p.bad = false := by
   cases hp : p.bad with
   | false => rfl
   | true => rw [loop_bad one w (n + 1) l hp] at hb; cases hb
  refine ⟨hpb, ?_⟩; rw [loopP] at hb ⊢
  split
  ·rename_i ht
   rw [if_pos ht] at hb; have ho := (nextP_no (p := p) (by rw [ht.2]; exact hw)).1; have hob : (one (takeP p)).2.bad = false := by
    cases hq : (one (takeP p)).2.bad with
    | false => rfl
    | true => rw [loop_bad one w n _ hq] at hb; cases hb
   obtain ⟨t1, t2, t3⟩ := h _ hob; have := take_con t2 (by rw [ht.2]; exact hn); exact (loop_con h w hw hn p0 n _ _ ((hc.trans ho this).trans t1 t3) hb).2
  ·exact hc
theorem join_con {one : PS → T26 × PS} (h : ConF one) (w : List UInt8) (hw : w ≠ []) (hn : noLim w) (k : Int) (n : Nat) : ConF (joinP one w k n) := by
 intro p hb; unfold joinP at hb ⊢; have hob : (one p).2.bad = false := by
  cases hq : (one p).2.bad with
  | false => rfl
  | true => have := loop_bad one w n [(one p).1] hq; rw [this] at hb; cases hb
 obtain ⟨a, b, c⟩ := h p hob; exact ⟨a, b, (loop_con h w hw hn p n _ _ c hb).2⟩
theorem any_con {one : PS → T26 × PS} (h : ConF one) (n : Nat) : ConF (anyP one n) :=
 join_con (join_con h AND (by decide) (noLim_no (by decide)) 7 n) OR (by decide) (noLim_no (by decide)) 8 n
theorem one_con : ∀ n, ConF (oneP n)
 | 0 => fun p hb => by cases hb
 | n + 1 => fun p hb => by
  have ih := one_con n; have hpb : p.bad = false := by
   cases hp : p.bad with
   | false => rfl
   | true => rw [one_bad (n + 1) hp] at hb; cases hb
  have ho : p.over = false := by
   cases ho : p.over with
   | false => rfl
   | true => rw [over_bad ho] at hb; cases hb
  refine ⟨ho, hpb, ?_⟩; rw [oneP] at hb ⊢; by_cases h1 : nextP p = NOT_
  ·rw [if_pos h1] at hb ⊢; obtain ⟨a, b, c⟩ := ih _ hb; exact (take_con b (by rw [h1]; exact noLim_no (by decide))).trans a c
  ·rw [if_neg h1] at hb ⊢; by_cases h2 : nextP p = [40]
   ·rw [if_pos h2] at hb ⊢; by_cases h3 : nextP (anyP (oneP n) n (takeP p)).2 = [41]
    ·rw [if_pos h3] at hb ⊢; obtain ⟨xo, xb⟩ := nextP_no (p := (anyP (oneP n) n (takeP p)).2) (by rw [h3]; decide); obtain ⟨a, b, c⟩ := any_con ih n _ xb; have k1 := (take_con b (by rw [h2]; exact noLim_no (by decide))).trans a c; exact k1.trans xo (take_con hb (by rw [h3]; exact noLim_no (by decide)))
    ·rw [if_neg h3] at hb; cases hb
   ·rw [if_neg h2] at hb ⊢; by_cases h3 : (takeP p).bad = true
    ·rw [if_pos h3, h3] at hb; cases hb
    ·rw [if_neg h3] at hb ⊢; rw [(leaf_same (nextP p) (takeP p) (takeP p) hb).2.1]; exact take_con (by simpa using h3) (leaf_noLim hb)
end Go.Proofs.YtmgkpphbehamcaaGreatDoor.Pure
