/- States in plain words: parts that each know one origin alone, and what they are together. -/
import Derived.Test.YtbifgnloeopdaaaDoorPSt8
namespace Go.Proofs.YtbifgnloeopdaaaDoor.Pure
open Go Go.Gg Go.Gp Gf
set_option linter.unusedVariables false
set_option linter.unusedSimpArgs false
theorem fold_mx {α : Type} (g : α → Int) (v : Int) : ∀ (l : List α) (a : Int), a ≤ v → (∀ x ∈ l, g x ≤ v) → (a = v ∨ ∃ x ∈ l, g x = v) → l.foldl (fun a x => mx a (g x)) a = v
  | [], a, h, _, e => by
    rcases e with e | ⟨x, hx, _⟩
    · exact e
    · cases hx
  | y :: l, a, h, hl, e => by
    have hy := hl y (by simp)
    refine fold_mx g v l (mx a (g y)) (by rcases mx_cases a (g y) with c | c <;> rw [c] <;> assumption) (fun x hx => hl x (by simp [hx])) ?_
    rcases e with e | ⟨x, hx, e⟩
    · left; rw [e]; exact mx_of_le hy
    · rcases List.mem_cons.1 hx with c | c
      · left; rw [← c, e]; unfold mx; split <;> omega
      · exact .inr ⟨x, c, e⟩
theorem fold_at {n : Nat} {p : Int} (hp : 0 ≤ p ∧ p < n) : ∀ (l : List T46) (s : T46), Told n s → (∀ x ∈ l, Told n x) →
    at0 (l.foldl joinS s).f0 p = l.foldl (fun a x => mx a (at0 x.f0 p)) (at0 s.f0 p) ∧ at0 (l.foldl joinS s).f1 p = l.foldl (fun a x => mx a (at0 x.f1 p)) (at0 s.f1 p)
  | [], s, h, _ => ⟨rfl, rfl⟩
  | x :: l, s, h, hl => by
    have hx := hl x (by simp)
    have := fold_at hp l (joinS s x) (h.join hx) fun y hy => hl y (by simp [hy])
    rw [join_f0 h.1 hx.1, join_f1, at0_zip h.1.v.1 hx.1.v.1 hp, at0_zip h.1.w.1 hx.1.w.1 hp] at this
    exact this
structure Parts (n : Nat) (w : T46) (ps : List T46) : Prop where
  whole : Told n w
  len : ps.length = n
  told : ∀ x ∈ ps, Told n x
  own : ∀ o : Int, 0 ≤ o ∧ o < n → at0 (ps.getD o.toNat z46).f0 o = at0 w.f0 o ∧ at0 (ps.getD o.toNat z46).f1 o = at0 w.f1 o
  other : ∀ o p : Int, 0 ≤ o ∧ o < n → 0 ≤ p ∧ p < n → p ≠ o → at0 (ps.getD o.toNat z46).f0 p = 0 ∧ at0 (ps.getD o.toNat z46).f1 p = 0
theorem Told.pos {n : Nat} {w : T46} (h : Told n w) {p : Int} : 0 ≤ at0 w.f0 p ∧ 0 ≤ at0 w.f1 p := ⟨(h.1.v.2 _).1, (h.1.w.2 _).1⟩
theorem at0_ext {n : Nat} {a b : List Int} (ha : a.length = n) (hb : b.length = n) (h : ∀ p : Int, 0 ≤ p ∧ p < n → at0 a p = at0 b p) : a = b :=
  vec_ext ha hb fun i hi => by have := h (i : Int) (by omega); simpa [at0] using this
theorem getD_mem {α : Type} {l : List α} {d x : α} (h : x ∈ l) : ∃ i, i < l.length ∧ l.getD i d = x := by
  obtain ⟨i, hi, e⟩ := List.getElem_of_mem h
  exact ⟨i, hi, by rw [getD_eq l d hi]; exact e⟩
theorem Parts.together {n : Nat} {w : T46} {ps : List T46} (h : Parts n w ps) (h1 : 1 ≤ n) : joinAll ps = w := by
  have le : ∀ p : Int, 0 ≤ p ∧ p < n → ∀ x ∈ ps, at0 x.f0 p ≤ at0 w.f0 p ∧ at0 x.f1 p ≤ at0 w.f1 p := fun p hp x hx => by
    obtain ⟨i, hi, e⟩ := getD_mem (d := z46) hx
    rw [h.len] at hi
    have ho : (0 : Int) ≤ (i : Int) ∧ (i : Int) < n := by omega
    have e' : ps.getD (i : Int).toNat z46 = x := by rw [Int.toNat_natCast]; exact e
    by_cases c : p = i
    · have := h.own i ho; rw [e'] at this; rw [c, this.1, this.2]; omega
    · have := h.other i p ho hp c; rw [e'] at this; rw [this.1, this.2]; exact h.whole.pos
  have at_ : ∀ p : Int, 0 ≤ p ∧ p < n → ∃ x ∈ ps, at0 x.f0 p = at0 w.f0 p ∧ at0 x.f1 p = at0 w.f1 p := fun p hp =>
    ⟨_, by have hl : p.toNat < ps.length := by rw [h.len]; omega
           rw [getD_eq ps z46 hl]; exact List.getElem_mem _, h.own p hp⟩
  match ps, h, le, at_ with
  | [], h, _, _ => exact absurd h.len (by simp; omega)
  | s :: l, h, le, at_ =>
    have hs := h.told s (by simp)
    have hl : ∀ x ∈ l, Told n x := fun x hx => h.told x (by simp [hx])
    have hj := fold_told l s hs hl
    show l.foldl joinS s = w
    refine told_eq hj h.whole (at0_ext hj.1.v.1 h.whole.1.v.1 fun p hp => ?_) (at0_ext hj.1.w.1 h.whole.1.w.1 fun p hp => ?_)
    · rw [(fold_at hp l s hs hl).1]
      refine fold_mx _ _ l _ (le p hp s (by simp)).1 (fun x hx => (le p hp x (by simp [hx])).1) ?_
      obtain ⟨x, hx, e, _⟩ := at_ p hp
      rcases List.mem_cons.1 hx with c | c
      · left; rw [← c]; exact e
      · exact .inr ⟨x, c, e⟩
    · rw [(fold_at hp l s hs hl).2]
      refine fold_mx _ _ l _ (le p hp s (by simp)).2 (fun x hx => (le p hp x (by simp [hx])).2) ?_
      obtain ⟨x, hx, _, e⟩ := at_ p hp
      rcases List.mem_cons.1 hx with c | c
      · left; rw [← c]; exact e
      · exact .inr ⟨x, c, e⟩
theorem at0_new (n : Nat) (p : Int) : at0 (newS n).f0 p = 0 ∧ at0 (newS n).f1 p = 0 := ⟨getD_zero n _, getD_zero n _⟩
theorem Parts.start (n : Nat) : Parts n (newS n) (List.replicate n (newS n)) := by
  have e : ∀ o : Int, 0 ≤ o ∧ o < n → (List.replicate n (newS n)).getD o.toNat z46 = newS n := fun o ho => by
    rw [getD_eq _ z46 (by rw [List.length_replicate]; omega), List.getElem_replicate]
  refine ⟨Told.new n, by simp, fun x hx => ?_, fun o ho => by rw [e o ho]; exact ⟨rfl, rfl⟩, fun o p ho hp c => by rw [e o ho]; exact at0_new n p⟩
  rw [(List.mem_replicate.1 hx).2]; exact Told.new n
theorem Parts.step {n : Nat} {w : T46} {ps : List T46} (h : Parts n w ps) (h1 : 1 ≤ n) (hn : n ≤ 8) (x : T36) (o : Int) (ho : 0 ≤ o ∧ o < n) (hx : x.f0 = 1 ∧ o = x.f1 ∨ x.f0 ≠ 1 ∧ x.f0 ≠ 2 ∧ o = x.f3) :
    ∃ w' q', Ev (fun k => grapevinelaw19_play k w x) w' ∧ Ev (fun k => grapevinelaw19_play k (ps.getD o.toNat z46) x) q' ∧ Parts n w' (ps.set o.toNat q') := by
  obtain ⟨g, hg⟩ := play_at h1 hn x o ho hx
  have hlt : o.toNat < ps.length := by rw [h.len]; omega
  have hq : Told n (ps.getD o.toNat z46) := h.told _ (by rw [getD_eq ps z46 hlt]; exact List.getElem_mem _)
  obtain ⟨w', hwE, hwT, _, hw1, hw2⟩ := hg w h.whole
  obtain ⟨q', hqE, hqT, _, hq1, hq2⟩ := hg _ hq
  have own := h.own o ho
  rw [own.1, own.2, ← hw2] at hq2
  have hq3 := (Prod.mk.injEq _ _ _ _).mp hq2
  have gs : ∀ p : Int, 0 ≤ p ∧ p < n → (ps.set o.toNat q').getD p.toNat z46 = if p = o then q' else ps.getD p.toNat z46 := fun p hp => by
    have hpl : p.toNat < ps.length := by rw [h.len]; omega
    rw [getD_eq _ z46 (by rw [List.length_set]; exact hpl), List.getElem_set]
    by_cases c : p = o
    · rw [if_pos c, if_pos (by rw [c])]
    · rw [if_neg c, if_neg (by omega), getD_eq ps z46 hpl]
  refine ⟨w', q', hwE, hqE, hwT, by rw [List.length_set]; exact h.len, fun y hy => ?_, fun p hp => ?_, fun p r hp hr c => ?_⟩
  · rcases List.mem_or_eq_of_mem_set hy with c | c
    · exact h.told y c
    · rw [c]; exact hqT
  · rw [gs p hp]
    by_cases c : p = o
    · rw [if_pos c, c]; exact hq3
    · rw [if_neg c, (hw1 p hp c).1, (hw1 p hp c).2]; exact h.own p hp
  · rw [gs p hp]
    by_cases d : p = o
    · rw [if_pos d]
      have := hq1 r hr (by omega)
      rw [this.1, this.2]
      exact h.other o r ho hr (by omega)
    · rw [if_neg d]; exact h.other p r hp hr c
theorem join_new {n : Nat} {w : T46} (h : Told n w) : joinS w (newS n) = w := by
  have hz := Told.new n
  refine told_eq (h.join hz) h (at0_ext ((h.join hz).1.v.1) h.1.v.1 fun p hp => ?_) (at0_ext ((h.join hz).1.w.1) h.1.w.1 fun p hp => ?_)
  · rw [join_f0 h.1 hz.1, at0_zip h.1.v.1 hz.1.v.1 hp, (at0_new n p).1]; exact mx_of_le h.pos.1
  · rw [join_f1, at0_zip h.1.w.1 hz.1.w.1 hp, (at0_new n p).2]; exact mx_of_le h.pos.2
theorem new_join {n : Nat} {w : T46} (h : Told n w) : joinS (newS n) w = w := by
  have hz := Told.new n
  have e : ∀ a : Int, 0 ≤ a → mx 0 a = a := fun a ha => by unfold mx; split <;> omega
  refine told_eq (hz.join h) h (at0_ext ((hz.join h).1.v.1) h.1.v.1 fun p hp => ?_) (at0_ext ((hz.join h).1.w.1) h.1.w.1 fun p hp => ?_)
  · rw [join_f0 hz.1 h.1, at0_zip hz.1.v.1 h.1.v.1 hp, (at0_new n p).1]; exact e _ h.pos.1
  · rw [join_f1, at0_zip hz.1.w.1 h.1.w.1 hp, (at0_new n p).2]; exact e _ h.pos.2
end Go.Proofs.YtbifgnloeopdaaaDoor.Pure
