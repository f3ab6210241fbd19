/- The reader in plain words: what is read of a text is read too where the text stands in brackets. -/
import Derived.Test.YtmgkpphbehamcaaGreatDoorPRd5
namespace Go.Proofs.YtmgkpphbehamcaaGreatDoor.Pure
open Go Go.Gg Go.Gp Gf
set_option linter.unusedVariables false
set_option linter.unusedSimpArgs false
def Sim (post : List UInt8) (p q : PS) : Prop := q.bad = p.bad ∧ q.over = false ∧ (p.over = false → q.rest = p.rest ++ 32 :: post) ∧ (p.over = true → q.rest = post)
def Behind (post : List UInt8) : Prop := itemL post = [41]
def Torn (p : PS) : Prop := p.over = false ∧ p.rest.head? = some 34 ∧ 34 ∉ p.rest.tail
theorem tw_app {c : UInt8} : ∀ (l m : List UInt8), c ∈ l → (l ++ m).takeWhile (· != c) = l.takeWhile (· != c)
 | [], m, h => by cases h
 | b :: t, m, h => by
  by_cases hb : b = c
  ·subst hb; simp
  ·have ht : c ∈ t := by
    rcases List.mem_cons.1 h with h | h
    ·exact absurd h.symm hb
    ·exact h
   simp [List.takeWhile_cons, hb, tw_app t m ht]
theorem tw_blank : ∀ (l m : List UInt8), (l ++ 32 :: m).takeWhile (· != 32) = l.takeWhile (· != 32)
 | [], m => by simp
 | b :: t, m => by
  by_cases hb : b = 32
  ·subst hb; simp
  ·simp [List.takeWhile_cons, hb, tw_blank t m]
theorem item_app {l post : List UInt8} (h : ¬ (l.head? = some 34 ∧ 34 ∉ l.tail)) : itemL (l ++ 32 :: post) = itemL l := by
 unfold itemL
 cases l with
 | nil => simp
 | cons b t =>
  by_cases hb : b = 34
  ·subst hb; have ht : 34 ∈ t := by simpa using h
   rw [if_pos (by simp [ht]), if_pos (by simp [ht])]; simp only [List.cons_append, List.tail_cons]; rw [tw_app t _ ht]
  ·rw [if_neg (by simp [hb]), if_neg (by simp [hb])]; exact tw_blank _ _
theorem sim_next {post : List UInt8} {p q : PS} (h : Sim post p q) (hb : p.bad = false) (ho : p.over = false) (ht : ¬ Torn p) : nextP q = nextP p := by
 obtain ⟨h1, h2, h3, h4⟩ := h; unfold nextP; rw [if_neg (by simp [h1, h2, hb]), if_neg (by simp [ho, hb]), h3 ho]; exact item_app fun e => ht ⟨ho, e⟩
theorem sim_over {post : List UInt8} {p q : PS} (hB : Behind post) (h : Sim post p q) (hb : p.bad = false) (ho : p.over = true) : nextP p = [] ∧ nextP q = [41] := by
 obtain ⟨h1, h2, h3, h4⟩ := h; refine ⟨if_pos (.inl ho), ?_⟩; unfold nextP; rw [if_neg (by simp [h1, h2, hb]), h4 ho]; exact hB
theorem torn_next {p : PS} (h : Torn p) (hb : p.bad = false) : ∃ u, nextP p = 34 :: u ∧ 34 ∉ u := by
 obtain ⟨h1, h2, h3⟩ := h; unfold nextP itemL; rw [if_neg (by simp [h1, hb]), if_neg (fun e => h3 e.2)]
 cases hr : p.rest with
 | nil => rw [hr] at h2; cases h2
 | cons b t =>
  rw [hr] at h2 h3; obtain rfl : b = 34 := by simpa using h2
  refine ⟨t.takeWhile (· != 32), by simp [List.takeWhile_cons], fun hm => ?_⟩; have : (34 : UInt8) ∈ t := (List.takeWhile_prefix _).subset hm; exact h3 this
theorem torn_next' {post : List UInt8} {p q : PS} (hs : Sim post p q) (h : Torn p) (hb : p.bad = false) : ∃ u, nextP q = 34 :: u := by
 obtain ⟨s1, s2, s3, s4⟩ := hs; obtain ⟨h1, h2, h3⟩ := h; unfold nextP itemL; rw [if_neg (by simp [s1, s2, hb]), s3 h1]
 cases hr : p.rest with
 | nil => rw [hr] at h2; cases h2
 | cons b t =>
  rw [hr] at h2; obtain rfl : b = 34 := by simpa using h2
  split
  ·exact ⟨_, rfl⟩
  ·exact ⟨_, by simp [List.takeWhile_cons]; rfl⟩
theorem sim_take {post : List UInt8} {p q : PS} (h : Sim post p q) (hb : p.bad = false) (ho : p.over = false) (ht : ¬ Torn p) (hk : (takeP p).bad = false) : Sim post (takeP p) (takeP q) := by
 have hn := sim_next h hb ho ht; obtain ⟨h1, h2, h3, h4⟩ := h; have hle := nextP_le p; unfold takeP at hk ⊢; rw [hn]; by_cases c0 : nextP p = []
 ·rw [if_pos c0] at hk; cases hk
 rw [if_neg c0] at hk ⊢; rw [if_neg c0]; have hrl : q.rest.length = p.rest.length + (post.length + 1) := by rw [h3 ho]; simp
 by_cases c1 : (nextP p).length = p.rest.length
 ·have hq1 : ¬ (nextP p).length = q.rest.length := by omega
  rw [if_pos c1, if_neg hq1]; have hg : q.rest[(nextP p).length]? = some 32 := by rw [h3 ho, c1]; simp
  rw [if_pos hg]; refine ⟨h1, h2, fun e => by simp at e, fun _ => ?_⟩; show q.rest.drop ((nextP p).length + 1) = post; rw [h3 ho, c1]; simp
 ·have hq1 : ¬ (nextP p).length = q.rest.length := by omega
  rw [if_neg c1] at hk ⊢; rw [if_neg hq1]; by_cases c2 : p.rest[(nextP p).length]? = some 32
  ·rw [if_pos c2] at hk ⊢; have hg : q.rest[(nextP p).length]? = some 32 := by rw [h3 ho, List.getElem?_append_left (by omega)]; exact c2
   rw [if_pos hg]; refine ⟨h1, h2, fun _ => ?_, fun e => by simp [ho] at e⟩; show q.rest.drop ((nextP p).length + 1) = p.rest.drop ((nextP p).length + 1) ++ 32 :: post; rw [h3 ho, List.drop_append_of_le_length (by omega)]
  ·rw [if_neg c2] at hk; cases hk
theorem bad_take {p : PS} (h : p.bad = true) : (takeP p).bad = true := by
 unfold takeP; have : nextP p = [] := by unfold nextP; rw [if_pos (.inr h)]
 rw [if_pos this]
theorem over_take {p : PS} (h : p.over = true) : (takeP p).bad = true := by
 unfold takeP; have : nextP p = [] := by unfold nextP; rw [if_pos (.inl h)]
 rw [if_pos this]
theorem join_bad {one : PS → T26 × PS} (h : ∀ p, p.bad = true → (one p).2.bad = true) (w : List UInt8) (k : Int) (n : Nat) {p : PS} (hp : p.bad = true) : (joinP one w k n p).2.bad = true := loop_bad one w n _ (h p hp)
theorem any_bad {one : PS → T26 × PS} (h : ∀ p, p.bad = true → (one p).2.bad = true) (n : Nat) {p : PS} (hp : p.bad = true) : (anyP one n p).2.bad = true := join_bad (fun q hq => join_bad h AND 7 n hq) OR 8 n hp
theorem one_bad : ∀ (n : Nat) {p : PS}, p.bad = true → (oneP n p).2.bad = true
 | 0, p, h => rfl
 | n + 1, p, h => by
  have hn : nextP p = [] := by unfold nextP; rw [if_pos (.inr h)]
  rw [oneP, hn, if_neg (by decide), if_neg (by decide), if_pos (bad_take h)]; exact bad_take h
theorem words_same (k : Int) (ws : List ByteArray) (p q : PS) (h : (wordsP k ws p).2.bad = false) : (wordsP k ws q).1 = (wordsP k ws p).1 ∧ (wordsP k ws p).2 = p ∧ (wordsP k ws q).2 = q := by
 unfold wordsP at h ⊢
 split
 ·exact ⟨rfl, rfl, rfl⟩
 ·rename_i c
  rw [if_neg c] at h; cases h
theorem leaf_same (it : List UInt8) (p q : PS) (h : (leafP it p).2.bad = false) : (leafP it q).1 = (leafP it p).1 ∧ (leafP it p).2 = p ∧ (leafP it q).2 = q := by
 unfold leafP at h ⊢
 split
 ·exact ⟨rfl, rfl, rfl⟩
 ·rename_i e1
  rw [e1] at h
  split
  ·exact ⟨rfl, rfl, rfl⟩
  ·rename_i e2
   rw [e2] at h
   split
   ·exact ⟨rfl, rfl, rfl⟩
   ·rename_i e3
    rw [e3] at h
    dsimp only at h
    by_cases h0 : it.head? = some 34
    ·rw [if_pos h0] at h ⊢; rw [if_pos h0]; by_cases h1 : Lib.hasSuffix it.tail [34] = true
     ·rw [if_pos h1] at h ⊢; rw [if_pos h1]; exact words_same _ _ _ _ h
     ·rw [if_neg h1] at h; cases h
    ·rw [if_neg h0] at h ⊢; rw [if_neg h0]; by_cases h1 : Lib.hasSuffix it [42] = true
     ·rw [if_pos h1] at h ⊢; rw [if_pos h1]; exact words_same _ _ _ _ h
     ·rw [if_neg h1] at h ⊢; rw [if_neg h1]; exact words_same _ _ _ _ h
theorem told_head {it w : List UInt8} {c d : UInt8} {u v : List UInt8} (hi : it = c :: u) (hw : w = d :: v) (h : c ≠ d) : toldL it w = none := by
 unfold toldL; have hb : (d == c) = false := beq_eq_false_iff_ne.2 fun e => h e.symm
 rw [if_neg]; subst hi; subst hw; simp only [Lib.hasPrefix, List.isPrefixOf, hb, Bool.false_and]; decide
theorem leaf_torn {it u : List UInt8} (hi : it = 34 :: u) (hu : 34 ∉ u) (p : PS) : (leafP it p).2.bad = true := by
 unfold leafP; rw [told_head hi (rfl : FROM = 102 :: _) (by decide), told_head hi (rfl : SINCE = 115 :: _) (by decide), told_head hi (rfl : UNTIL = 117 :: _) (by decide)]
 dsimp only
 subst hi; have h0 : (34 :: u).head? = some (34 : UInt8) := rfl; have h1 : ¬ Lib.hasSuffix (34 :: u).tail [34] = true := by
  intro h; have : [34] <:+ u := by simpa [Lib.hasSuffix] using h
  exact hu (this.subset (by simp))
 rw [if_pos h0, if_neg h1]; rfl
def SimF (post : List UInt8) (one one' : PS → T26 × PS) : Prop := ∀ p q, Sim post p q → (one p).2.bad = false → (one' q).1 = (one p).1 ∧ Sim post (one p).2 (one' q).2
def BadF (one : PS → T26 × PS) : Prop := ∀ p, p.bad = true → (one p).2.bad = true
theorem sim_loop {post : List UInt8} (hB : Behind post) {one one' : PS → T26 × PS} (h : SimF post one one') (hbf : BadF one) (w : List UInt8) (w0 : UInt8) (wt : List UInt8) (hw : w = w0 :: wt) (h34 : w0 ≠ 34) (h41 : w ≠ [41]) :
  ∀ (n m : Nat) (l : List T26) (p q : PS), n ≤ m → Sim post p q → (loopP one w n l p).2.bad = false → (loopP one' w m l q).1 = (loopP one w n l p).1 ∧ Sim post (loopP one w n l p).2 (loopP one' w m l q).2
 | 0, m, l, p, q, hm, hs, hb => by cases hb
 | n + 1, m, l, p, q, hm, hs, hb => by
  obtain ⟨m', rfl⟩ : ∃ m', m = m' + 1 := ⟨m - 1, by omega⟩; have hpb : p.bad = false := by
   cases hp : p.bad with
   | false => rfl
   | true => rw [loop_bad one w (n + 1) l hp] at hb; cases hb
  have hqb : q.bad = false := hs.1.trans hpb; rw [loopP] at hb ⊢; rw [loopP]; by_cases ht : p.bad = false ∧ nextP p = w
  ·rw [if_pos ht] at hb ⊢; have ho : p.over = false := (nextP_no (p := p) (by rw [ht.2, hw]; simp)).1; have hto : ¬ Torn p := fun e => by
    obtain ⟨u, hu, _⟩ := torn_next e hpb; rw [ht.2, hw] at hu; exact h34 (List.cons.inj hu).1
   rw [if_pos ⟨hqb, (sim_next hs hpb ho hto).trans ht.2⟩]; have hob : (one (takeP p)).2.bad = false := by
    cases hq : (one (takeP p)).2.bad with
    | false => rfl
    | true => rw [loop_bad one w n _ hq] at hb; cases hb
   have htb : (takeP p).bad = false := by
    cases hq : (takeP p).bad with
    | false => rfl
    | true => rw [hbf _ hq] at hob; cases hob
   obtain ⟨r1, r2⟩ := h _ _ (sim_take hs hpb ho hto htb) hob; rw [r1]; exact sim_loop hB h hbf w w0 wt hw h34 h41 n m' _ _ _ (by omega) r2 hb
  ·rw [if_neg ht] at hb ⊢; have hne : ¬ (q.bad = false ∧ nextP q = w) := by
    rintro ⟨_, hq⟩
    cases ho : p.over with
    | true =>
     have := (sim_over hB hs hpb ho).2; exact h41 (hq.symm.trans this)
    | false =>
     by_cases hto : Torn p
     ·obtain ⟨u, hu⟩ := torn_next' hs hto hpb; rw [hq, hw] at hu; exact h34 (List.cons.inj hu).1
     ·exact ht ⟨hpb, (sim_next hs hpb ho hto).symm.trans hq⟩
   rw [if_neg hne]; exact ⟨rfl, hs⟩
theorem sim_join {post : List UInt8} (hB : Behind post) {one one' : PS → T26 × PS} (h : SimF post one one') (hbf : BadF one) (w : List UInt8) (w0 : UInt8) (wt : List UInt8) (hw : w = w0 :: wt) (h34 : w0 ≠ 34) (h41 : w ≠ [41]) (k : Int) (n m : Nat) (hm : n ≤ m) : SimF post (joinP one w k n) (joinP one' w k m) := by
 intro p q hs hb; unfold joinP at hb ⊢; have hob : (one p).2.bad = false := by
  cases hq : (one p).2.bad with
  | false => rfl
  | true => have := loop_bad one w n [(one p).1] hq; rw [this] at hb; cases hb
 obtain ⟨r1, r2⟩ := h p q hs hob; obtain ⟨t1, t2⟩ := sim_loop hB h hbf w w0 wt hw h34 h41 n m [(one p).1] _ _ hm r2 hb; rw [r1]; exact ⟨by dsimp only; rw [t1], t2⟩
theorem sim_any {post : List UInt8} (hB : Behind post) {one one' : PS → T26 × PS} (h : SimF post one one') (hbf : BadF one) (n m : Nat) (hm : n ≤ m) : SimF post (anyP one n) (anyP one' m) :=
 sim_join hB (sim_join hB h hbf AND 65 _ rfl (by decide) (by decide) 7 n m hm) (fun p hp => join_bad hbf AND 7 n hp) OR 79 _ rfl (by decide) (by decide) 8 n m hm
theorem sim_one {post : List UInt8} (hB : Behind post) : ∀ (n m : Nat), n ≤ m → SimF post (oneP n) (oneP m)
 | 0, m, hm => fun p q hs hb => by cases hb
 | n + 1, m, hm => fun p q hs hb => by
  obtain ⟨m', rfl⟩ : ∃ m', m = m' + 1 := ⟨m - 1, by omega⟩; have ih := sim_one hB n m' (by omega); have hpb : p.bad = false := by
   cases hp : p.bad with
   | false => rfl
   | true => rw [one_bad (n + 1) hp] at hb; cases hb
  have ho : p.over = false := by
   cases ho : p.over with
   | false => rfl
   | true =>
    have hn : nextP p = [] := by unfold nextP; rw [if_pos (.inl ho)]
    rw [oneP, hn, if_neg (by decide), if_neg (by decide), if_pos (over_take ho)] at hb; rw [over_take ho] at hb; cases hb
  have hto : ¬ Torn p := by
   intro hto; obtain ⟨u, hu, hu2⟩ := torn_next hto hpb; rw [oneP, hu, if_neg (by simp [NOT_]), if_neg (by simp)] at hb; by_cases hk : (takeP p).bad = true
   ·rw [if_pos hk, hk] at hb; cases hb
   ·rw [if_neg hk, leaf_torn rfl hu2] at hb; cases hb
  have hn := sim_next hs hpb ho hto; rw [oneP] at hb ⊢; rw [oneP, hn]; by_cases h1 : nextP p = NOT_
  ·rw [if_pos h1] at hb ⊢; rw [if_pos h1]; have htb : (takeP p).bad = false := by
    cases hq : (takeP p).bad with
    | false => rfl
    | true => have := one_bad n hq; rw [this] at hb; cases hb
   obtain ⟨r1, r2⟩ := ih _ _ (sim_take hs hpb ho hto htb) hb; rw [r1]; exact ⟨rfl, r2⟩
  ·rw [if_neg h1] at hb ⊢; rw [if_neg h1]; by_cases h2 : nextP p = [40]
   ·rw [if_pos h2] at hb ⊢; rw [if_pos h2]; by_cases h3 : nextP (anyP (oneP n) n (takeP p)).2 = [41]
    ·rw [if_pos h3] at hb ⊢; obtain ⟨xo, xb⟩ := nextP_no (p := (anyP (oneP n) n (takeP p)).2) (by rw [h3]; decide); have htb : (takeP p).bad = false := by
      cases hq : (takeP p).bad with
      | false => rfl
      | true => have := any_bad (fun q hq => one_bad n hq) n hq; rw [this] at xb; cases xb
     obtain ⟨r1, r2⟩ := sim_any hB ih (fun q hq => one_bad n hq) n m' (by omega) _ _ (sim_take hs hpb ho hto htb) xb; have hxt : ¬ Torn (anyP (oneP n) n (takeP p)).2 := fun e => by
      obtain ⟨u, hu, _⟩ := torn_next e xb; rw [h3] at hu
      cases hu
     rw [if_pos ((sim_next r2 xb xo hxt).trans h3)]; exact ⟨r1, sim_take r2 xb xo hxt hb⟩
    ·rw [if_neg h3] at hb; cases hb
   ·rw [if_neg h2] at hb ⊢; rw [if_neg h2]; by_cases h3 : (takeP p).bad = true
    ·rw [if_pos h3, h3] at hb; cases hb
    ·rw [if_neg h3] at hb ⊢; have htb : (takeP p).bad = false := by simpa using h3
     have hst := sim_take hs hpb ho hto htb; have hqb : ¬ (takeP q).bad = true := by rw [hst.1]; exact h3
     rw [if_neg hqb]; obtain ⟨l1, l2, l3⟩ := leaf_same (nextP p) (takeP p) (takeP q) hb; rw [l2, l3]; exact ⟨l1, hst⟩
end Go.Proofs.YtmgkpphbehamcaaGreatDoor.Pure
