/- A text in brackets is read as it is. -/
import Derived.Test.YtmgkpphbehamcaaGreatDoorPLim
namespace Go.Proofs.YtmgkpphbehamcaaGreatDoor.Pure
open Go Go.Gg Go.Gp Gf
set_option linter.unusedVariables false
set_option linter.unusedSimpArgs false
theorem last_app {α : Type} (a : List α) {b : List α} (h : b ≠ []) : (a ++ b).getLast? = b.getLast? := by
 rw [List.getLast?_append]
 cases hb : b.getLast? with
 | none => exact absurd (List.getLast?_eq_none_iff.1 hb) h
 | some x => rfl
theorem brk_take {s post : List UInt8} {p : PS} (hr : p.rest = 40 :: 32 :: (s ++ 32 :: post)) (ho : p.over = false) (hb : p.bad = false) : nextP p = [40] ∧ takeP p = ⟨s ++ 32 :: post, false, false⟩ := by
 have hn : nextP p = [40] := by
  unfold nextP itemL; rw [if_neg (by simp [ho, hb]), hr]; simp
 refine ⟨hn, ?_⟩; unfold takeP; rw [hn, hr, ho, hb]; simp
theorem brk_one {s post : List UInt8} (hB : Behind post) {p : PS} (hr : p.rest = 40 :: 32 :: (s ++ 32 :: post)) (ho : p.over = false) (hb : p.bad = false) (n : Nat) (hn : s.length + 1 ≤ n) (hX : (runP s).2.bad = false) :
  ∃ q, Sim post (runP s).2 q ∧ oneP (n + 1) p = if nextP q = [41] then ((runP s).1, takeP q) else failP q := by
 obtain ⟨h1, h2⟩ := brk_take hr ho hb; have hs : Sim post ⟨s, false, false⟩ ⟨s ++ 32 :: post, false, false⟩ := ⟨rfl, rfl, fun _ => rfl, fun e => (by cases e)⟩; obtain ⟨r1, r2⟩ := sim_any hB (sim_one hB (s.length + 1) n hn) (fun q hq => one_bad _ hq) (s.length + 1) n hn _ _ hs hX; refine ⟨(anyP (oneP n) n ⟨s ++ 32 :: post, false, false⟩).2, r2, ?_⟩; rw [oneP, h1, h2, if_neg (by decide), if_pos rfl, r1]; rfl
theorem told_pre {it w : List UInt8} {n : Int} (h : toldL it w = some n) : ∃ d, it = w ++ d ∧ d ≠ [] ∧ ∀ b ∈ d, digs.contains b = true := by
 unfold toldL at h
 split at h
 case isFalse => cases h
 rename_i hp
 have hpre : w <+: it := by simpa [Lib.hasPrefix] using hp
 obtain ⟨t, rfl⟩ := hpre; rw [List.drop_left] at h; refine ⟨t, rfl, fun e => ?_, numL_digs h⟩; subst e
 cases h
theorem numsL_digs : ∀ {ws : List ByteArray} {ns : List Int}, numsL ws = some ns → ∀ w ∈ ws, ∀ b ∈ w.data.toList, digs.contains b = true
 | [], _, _, w, hw => by cases hw
 | v :: t, ns, h, w, hw => by
  rw [numsL] at h
  cases hv : numL v.data.toList with
  | none => rw [hv] at h; cases h
  | some n =>
   rw [hv] at h
   cases ht : numsL t with
   | none => rw [ht] at h; cases h
   | some ms =>
    rcases List.mem_cons.1 hw with rfl | hw
    ·exact numL_digs hv
    ·exact numsL_digs ht w hw
theorem dig_no {b : UInt8} (h : digs.contains b = true) : b ≠ 41 := by rintro rfl; revert h; decide
theorem after_over {p : PS} {q : T34} (ho : p.over = false) (h1 : (afterP p q).1.over = true) (h2 : (afterP p q).1.bad = false) : AFTER <+: nextP p ∧ (takeP p).over = true ∧ 41 ∉ nextP p := by
 unfold afterP at h1 h2; by_cases hp : Lib.hasPrefix (nextP p) AFTER = true
 case neg => rw [if_neg hp, ho] at h1; cases h1
 rw [if_pos hp] at h1 h2; have hpre : AFTER <+: nextP p := by simpa [Lib.hasPrefix] using hp
 refine ⟨hpre, ?_⟩
 cases hn : numsL (splitW 46 ((nextP p).drop 6)) with
 | none => rw [hn] at h2; cases h2
 | some ns =>
  rw [hn] at h1 h2
  dsimp only at h1 h2
  split at h2
  ·cases h2
  rename_i hc
  rw [if_neg hc] at h1; refine ⟨h1, fun hm => ?_⟩; obtain ⟨t, ht⟩ := hpre; have hd : (nextP p).drop 6 = t := by rw [← ht]; rfl
  rw [hd, splitW_eq] at hn; rw [← ht] at hm; rcases List.mem_append.1 hm with hm | hm
  ·revert hm; decide
  ·obtain ⟨w, hw, hwm⟩ := splitL_mem (c := 46) (by decide) t hm; exact dig_no (numsL_digs hn (ba w) (List.mem_map.2 ⟨w, hw, rfl⟩) 41 hwm) rfl
theorem take_over {p : PS} (ho : p.over = false) (h : (takeP p).over = true) : nextP p = p.rest := by
 unfold takeP at h
 split at h
 ·rw [ho] at h; cases h
 ·split at h
  ·rename_i hl
   exact (nextP_pre p).eq_of_length hl
  ·split at h
   ·rw [ho] at h; cases h
   ·rw [ho] at h; cases h
theorem end_over {p : PS} {q : T34} (ho : p.over = false) (h1 : (endP p q).1.over = true) (h2 : (endP p q).1.bad = false) : (LIMIT <+: nextP p ∨ AFTER <+: nextP p) ∧ p.rest.getLast? ≠ some 41 := by
 unfold endP at h1 h2
 cases ht : toldL (nextP p) LIMIT with
 | none =>
  rw [ht] at h1 h2; obtain ⟨a, b, c⟩ := after_over ho h1 h2; refine ⟨.inr a, fun e => ?_⟩; rw [take_over ho b] at c; exact c (List.mem_of_getLast? e)
 | some n =>
  rw [ht] at h1 h2
  dsimp only at h1 h2
  obtain ⟨d, hd, hd0, hdd⟩ := told_pre ht; refine ⟨.inl ⟨d, hd.symm⟩, ?_⟩
  cases hto : (takeP p).over with
  | true =>
   rw [← take_over ho hto, hd, last_app _ hd0]; intro e; exact dig_no (hdd _ (List.mem_of_getLast? e)) rfl
  | false =>
   obtain ⟨a, b, c⟩ := after_over hto h1 h2; have htb : (takeP p).bad = false := (nextP_no (p := takeP p) (by obtain ⟨t, ht⟩ := a; rw [← ht]; simp [AFTER])).2; rw [take_over hto b] at c a; obtain ⟨cc, hcc⟩ := (take_suf p); have hne : (takeP p).rest ≠ [] := by obtain ⟨t, ht⟩ := a; rw [← ht]; simp [AFTER]
   rw [← hcc, last_app _ hne]; intro e; exact c (List.mem_of_getLast? e)
theorem ok_parts {s : List UInt8} (h : okP s = true) : s.length ≤ 200 ∧ (rdP s).1.bad = false ∧ (rdP s).1.over = true ∧ mayQB 700 (rdP s).2 = true := by
 unfold okP at h; rw [Bool.and_eq_true, Bool.and_eq_true, Bool.and_eq_true, Bool.not_eq_true', decide_eq_true_eq] at h; exact ⟨h.1, h.2.1, h.2.2.1, h.2.2.2⟩
theorem ok_run {s : List UInt8} (h : okP s = true) : (runP s).2.bad = false := by
 obtain ⟨_, h2, _, _⟩ := ok_parts h
 cases hq : (runP s).2.bad with
 | false => rfl
 | true => have := end_bad (qOf (runP s).1) hq; unfold rdP at h2; rw [this] at h2; cases h2
theorem rd_ask (s : List UInt8) : askOf (rdP s).2 = (runP s).1 := (end_ask _ _).trans (eta26 _)
theorem read_ask {s : List UInt8} (h : okP s = true) : askOf (readP s).1 = (runP s).1 := by
 unfold readP; rw [if_pos h]; exact rd_ask s
theorem loop_end (one : PS → T26 × PS) (w : List UInt8) (hw : w ≠ []) (n : Nat) (hn : 1 ≤ n) (l : List T26) {p : PS} (h : nextP p ≠ w) : loopP one w n l p = (l, p) := by
 obtain ⟨m, rfl⟩ : ∃ m, n = m + 1 := ⟨n - 1, by omega⟩; rw [loopP, if_neg (fun e => h e.2)]
theorem any_single (one : PS → T26 × PS) (n : Nat) (hn : 1 ≤ n) (p : PS) (h1 : nextP (one p).2 ≠ AND) (h2 : nextP (one p).2 ≠ OR) : anyP one n p = one p := by
 have ha : allP one n p = one p := by
  unfold allP joinP; rw [loop_end one AND (by decide) n hn _ h1]; rfl
 unfold anyP joinP; rw [ha, loop_end (allP one n) OR (by decide) n hn _ h2]; rfl
theorem nextP_over {p : PS} (h : p.over = true) : nextP p = [] := by unfold nextP; rw [if_pos (.inl h)]
theorem nextP_bad {p : PS} (h : p.bad = true) : nextP p = [] := by unfold nextP; rw [if_pos (.inr h)]
def inB (s : List UInt8) : List UInt8 := [40, 32] ++ s ++ [32, 41]
theorem inB_eq (s : List UInt8) : inB s = 40 :: 32 :: (s ++ 32 :: [41]) := by simp [inB]
theorem behind1 : Behind [41] := show itemL [41] = [41] by decide
theorem take1 {q : PS} (hr : q.rest = [41]) (ho : q.over = false) (hb : q.bad = false) : nextP q = [41] ∧ takeP q = ⟨[], true, false⟩ := by
 obtain ⟨r, o, b⟩ := q; subst hr; subst ho; subst hb; exact ⟨by decide, by decide⟩
theorem lim_next {post : List UInt8} {p q : PS} (hs : Sim post p q) (hb : p.bad = false) (ho : p.over = false) (h : LIMIT <+: nextP p ∨ AFTER <+: nextP p) : nextP q = nextP p ∧ nextP p ≠ [41] := by
 have hto : ¬ Torn p := by
  intro e; obtain ⟨u, hu, _⟩ := torn_next e hb; rw [hu] at h; rcases h with ⟨t, h⟩ | ⟨t, h⟩
  ·cases h
  ·cases h
 refine ⟨sim_next hs hb ho hto, fun e => ?_⟩; rw [e] at h; rcases h with ⟨t, h⟩ | ⟨t, h⟩
 ·cases h
 ·cases h
theorem brk_run {s : List UInt8} (h : okP s = true) : ((runP s).2.over = true → runP (inB s) = ((runP s).1, ⟨[], true, false⟩)) ∧ ((runP s).2.over = false → (runP (inB s)).2.bad = true) := by
 have hX := ok_run h; obtain ⟨_, p2, p3, _⟩ := ok_parts h; have hlen : (inB s).length = s.length + 4 := by simp [inB]
 obtain ⟨q, hq, hone⟩ := brk_one behind1 (p := ⟨inB s, false, false⟩) (s := s) (post := [41]) (by rw [← inB_eq]) rfl rfl (s.length + 4) (by omega) hX; unfold runP; rw [hlen]; have hqb : q.bad = false := hq.1.trans hX; refine ⟨fun ho => ?_, fun ho => ?_⟩
 ·obtain ⟨t1, t2⟩ := take1 (hq.2.2.2 ho) hq.2.1 hqb; rw [if_pos t1, t2] at hone; have hn : nextP (oneP (s.length + 4 + 1) ⟨inB s, false, false⟩).2 = [] := by rw [hone]; exact nextP_over rfl
  rw [any_single _ _ (by omega) _ (by rw [hn]; decide) (by rw [hn]; decide), hone]; rfl
 ·have hl := (end_over ho p3 p2).1; obtain ⟨n1, n2⟩ := lim_next hq hX ho hl; rw [if_neg (by rw [n1]; exact n2)] at hone; have hn : nextP (oneP (s.length + 4 + 1) ⟨inB s, false, false⟩).2 = [] := by rw [hone]; exact nextP_bad rfl
  rw [any_single _ _ (by omega) _ (by rw [hn]; decide) (by rw [hn]; decide), hone]; rfl
theorem brk_same {s : List UInt8} (h : okP s = true) (ht : okP (inB s) = true) : (runP (inB s)).1 = (runP s).1 := by
 obtain ⟨a, b⟩ := brk_run h
 cases ho : (runP s).2.over with
 | true => rw [a ho]
 | false =>
  have := ok_run ht; rw [b ho] at this; cases this
theorem brk_noLim {s : List UInt8} (ht : okP (inB s) = true) : noLim s := by
 obtain ⟨_, p2, p3, _⟩ := ok_parts ht; have hX := ok_run ht; obtain ⟨_, _, hc⟩ := any_con (one_con ((inB s).length + 1)) ((inB s).length + 1) ⟨inB s, false, false⟩ hX; have hno : noLim (inB s) := by
  cases ho : (runP (inB s)).2.over with
  | true => exact hc.2 ho
  | false =>
   obtain ⟨a, b⟩ := end_over ho p3 p2; exfalso; apply b; obtain ⟨c, hcc, _⟩ := hc.1 ho; have hne : (runP (inB s)).2.rest ≠ [] := by
    have := nextP_le (runP (inB s)).2; intro e; rw [e] at this; have h0 : nextP (runP (inB s)).2 = [] := List.eq_nil_of_length_eq_zero (by simpa using this); rw [h0] at a; rcases a with ⟨t, a⟩ | ⟨t, a⟩
    ·cases a
    ·cases a
   have e1 : (inB s).getLast? = some 41 := by
    have : inB s = ([40, 32] ++ s ++ [32]) ++ [41] := by simp [inB]
    rw [this, last_app _ (by simp)]; rfl
   have e2 : inB s = (c ++ [32]) ++ (runP (inB s)).2.rest := by
    have : inB s = c ++ 32 :: (anyP (oneP ((inB s).length + 1)) ((inB s).length + 1) ⟨inB s, false, false⟩).2.rest := hcc; rw [List.append_assoc]; exact this
   rw [e2, last_app _ hne] at e1; exact e1
 intro i; have key : ∀ L : List UInt8, L <+: s.drop i → L <+: (inB s).drop (i + 2) := by
  intro L hL; by_cases hi : i ≤ s.length
  ·have : (inB s).drop (i + 2) = s.drop i ++ [32, 41] := by
    show (40 :: 32 :: s ++ [32, 41]).drop (i + 2) = _; rw [List.cons_append, List.cons_append, List.drop_succ_cons, List.drop_succ_cons, List.drop_append_of_le_length hi]
   rw [this]; exact hL.trans (List.prefix_append _ _)
  ·rw [List.drop_of_length_le (by omega)] at hL; rw [List.eq_nil_of_prefix_nil hL]; exact List.nil_prefix
 exact ⟨fun e => (hno _).1 (key _ e), fun e => (hno _).2 (key _ e)⟩
end Go.Proofs.YtmgkpphbehamcaaGreatDoor.Pure
