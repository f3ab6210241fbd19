/- A text in brackets is read as it is. -/
import Derived.Test.YtmgkpphbehamcaaGreatDoorPLim
namespace Go.Proofs.YtmgkpphbehamcaaGreatDoor.Pure
open Go Go.Gg Go.Gp Gf
set_option linter.unusedVariables false
set_option linter.unusedSimpArgs false
theorem last_app {α : Type} (a : List α) {b : List α} (h : b ≠ []) : (a ++ b).getLast? = b.getLast? := by
 rw [List.getLast?_append]
 cases hb : b.getLast? with
 | none => exact absurd (List.getLast?_eq_none_iff.1 hb) h
 | some x => rfl
theorem brk_take {s post : List UInt8} {p : PS} (hr : p.rest = 40 :: 32 :: (s ++ 32 :: post)) (ho : p.over = false) (hb : p.bad = false) : nextP p = [40] ∧ takeP p = ⟨s ++ 32 :: post, false, false⟩ := by
 have hn : nextP p = [40] := by
  unfold nextP itemL; rw [if_neg (by simp [ho, hb]), hr]; simp
 refine ⟨hn, ?_⟩; unfold takeP; rw [hn, hr, ho, hb]; simp
theorem brk_one {s post : List UInt8} (hB : Behind post) {p : PS} (hr : p.rest = 40 :: 32 :: (s ++ 32 :: post)) (ho : p.over = false) (hb : p.bad = false) (n : Nat) (hn : s.length + 1 ≤ n) (hX : (runP s).2.bad = false) :
  ∃ q, Sim post (runP s).2 q ∧ oneP (n + 1) p = if nextP q = [41] then ((runP s).1, takeP q) else failP q := by
 obtain ⟨h1, h2⟩ := brk_take hr ho hb; have hs : Sim post ⟨s, false, false⟩ ⟨s ++ 32 :: post, false, false⟩ := ⟨rfl, rfl, fun _ => rfl, fun e => (by cases e)⟩; obtain ⟨r1, r2⟩ := sim_any hB (sim_one hB (s.length + 1) n hn) (fun q hq => one_bad _ hq) (s.length + 1) n hn _ _ hs hX; refine ⟨(anyP (oneP n) n ⟨s ++ 32 :: post, false, false⟩).2, r2, ?_⟩; rw [oneP, h1, h2, if_neg (by decide), if_pos rfl, r1]; rfl
theorem told_pre {it w : List UInt8} {n : Int} (h : toldL it w = some n) : ∃ d, it = w ++ d ∧ d ≠ [] ∧ ∀ b ∈ d, digs.contains b = true := by
 unfold toldL at h
 split at h
 case isFalse => cases h
 rename_i hp
 have hpre : w <+: it := by simpa [Lib.hasPrefix] using hp
 obtain ⟨t, rfl⟩ := hpre; rw [List.drop_left] at h; refine ⟨t, rfl, fun e => ?_, numL_digs h⟩; subst e
 cases h
theorem numsL_digs : ∀ {ws : List ByteArray} {ns : List Int}, numsL ws = some ns → ∀ w ∈ ws, ∀ b ∈ w.data.toList, digs.contains b = true
 | [], _, _, w, hw => by cases hw
 | v :: t, ns, h, w, hw => by
  rw [numsL] at h
  cases hv : numL v.data.toList with
  | none => rw [hv] at h; cases h
  | some n =>
   rw [hv] at h
   cases ht : numsL t with
   | none => rw [ht] at h; cases h
   | some ms =>
    rcases List.mem_cons.1 hw with rfl | hw
    ·exact numL_digs hv
    ·exact numsL_digs ht w hw
theorem dig_no {b : UInt8} (h : digs.contains b = true) : b ≠ 41 := by rintro rfl; revert h; decide
theorem after_over {p : PS} {q : T34} (ho : p.over = false) (h1 : (afterP p q).1.over = true) (h2 : (afterP p q).1.bad = false) : AFTER <+: nextP p ∧ (takeP p).over = true ∧ 41 ∉ nextP p := by
 unfold afterP at h1 h2; by_cases hp : Lib.hasPrefix (nextP p) AFTER = true
 case neg => rw [if_neg hp, ho] at h1; cases h1
 rw [if_pos hp] at h1 h2; have hpre : AFTER <+: nextP p := by simpa [Lib.hasPrefix] using hp
 refine ⟨hpre, ?_⟩
 cases hn : numsL (splitW 46 ((nextP p).drop 6)) with
 | none => rw [hn] at h2; cases h2
 | some ns =>
  rw [hn] at h1 h2
  dsimp only at h1 h2
  split at h2
  ·cases h2
  rename_i hc
  rw [if_neg hc] at h1; refine ⟨h1, fun hm => ?_⟩; obtain ⟨t, ht⟩ := hpre; have hd : (nextP p).drop 6 = t := by rw [← ht]; rfl
  rw [hd, splitW_eq] at hn; rw [← ht] at hm; rcases List.mem_append.1 hm with hm | hm
  ·revert hm; decide
  ·obtain ⟨w, hw, hwm⟩ := splitL_mem (c := 46) (by decide) t hm; exact dig_no (numsL_digs hn (ba w) (List.mem_map.2 ⟨w, hw, rfl⟩) 41 hwm) rfl
theorem take_over {p : PS} (ho : p.over = false) (h : (takeP p).over = true) : nextP p = p.rest := by
 unfold takeP at h
 split at h
 ·rw [ho] at h; cases h
 ·split at h
  ·rename_i hl
   exact (nextP_pre p).eq_of_length hl
  ·split at h
   ·rw [ho] at h; cases h
   ·rw [ho] at h; cases h
theorem end_over {p : PS} {q : T34} (ho : p.over = false) (h1 : (endP p q).1.over = true) (h2 : (endP p q).1.bad = false) : (LIMIT <+: nextP p ∨ AFTER <+: nextP p) ∧ p.rest.getLast? ≠ some 41 := by
 unfold endP at h1 h2
 cases ht : toldL (nextP p) LIMIT with
 | none =>
  rw [ht] at h1 h2; obtain ⟨a, b, c⟩ := after_over ho h1 h2; refine ⟨.inr a, fun e => ?_⟩; rw [take_over ho b] at c; exact c (List.mem_of_getLast? e)
 | some n =>
  rw [ht] at h1 h2
  dsimp only at h1 h2
  obtain ⟨d, hd, hd0, hdd⟩ := told_pre ht; refine ⟨.inl ⟨d, hd.symm⟩, ?_⟩
  cases hto : (takeP p).over with
  | true =>
   rw [← take_over ho hto, hd, last_app _ hd0]; intro e; exact dig_no (hdd _ (List.mem_of_getLast? e)) rfl
  | false =>
   obtain ⟨a, b, c⟩ := after_over hto h1 h2; have htb : (takeP p).bad = false := (nextP_no (p := takeP p) (by obtain ⟨t, ht⟩ := a; rw [← ht]; simp [AFTER])).2; rw [take_over hto b] at c a; obtain ⟨cc, hcc⟩ := (take_suf p); have hne : (takeP p).rest ≠ [] := by obtain ⟨t, ht⟩ := a; rw [← ht]; simp [AFTER]
   rw [← hcc, last_app _ hne]; intro e; exact c (List.mem_of_getLast? e)
theorem ok_parts {s : List UInt8} (h : okP s = true) : s.length ≤ 200 ∧ (rdP s).1.bad = false ∧ (rdP s).1.over = true ∧ mayQB 700 (rdP s).2 = true := by
 unfold okP at h; rw [Bool.and_eq_true, Bool.and_eq_true, Bool.and_eq_true, Bool.not_eq_true', decide_eq_true_eq] at h; exact ⟨h.1, h.2.1, h.2.2.1, h.2.2.2⟩
theorem ok_run {s : List UInt8} (h : okP s = true) : (runP s).2.bad = false := by
 obtain ⟨_, h2, _, _⟩ := ok_parts h
 cases hq : (runP s).2.bad with
 | false => rfl
 | true => have := end_bad (qOf (runP s).1) hq; unfold rdP at h2; rw [this] at h2; cases h2
theorem rd_ask (s : List UInt8) : askOf (rdP s).2 = (runP s).1 := (end_ask _ _).trans (eta26 _)
theorem read_ask {s : List UInt8} (h : okP s = true) : askOf (readP s).1 = (runP s).1 := by
 unfold readP; rw [if_pos h]; exact rd_ask s
theorem loop_end (one : PS → T26 × PS) (w : List UInt8) (hw : w ≠ []) (n : Nat) (hn : 1 ≤ n) (l : List T26) {p : PS} (h : nextP p ≠ w) : loopP one w n l p = (l, p) := by
 obtain ⟨m, rfl⟩ : ∃ m, n = m + 1 := ⟨n - 1, by omega⟩; rw [loopP, if_neg (fun e => h e.2)]
theorem any_single (one : PS → T26 × PS) (n : Nat) (hn : 1 ≤ n) (p : PS) (h1 : nextP (one p).2 ≠ AND) (h2 : nextP (one p).2 ≠ OR) : anyP one n p = one p := by
 have ha : allP one n p = one p := by
  unfold allP joinP; rw [loop_end one AND (by decide) n hn _ h1]; rfl
 unfold anyP joinP; rw [ha, loop_end (allP one n) OR (by decide) n hn _ h2]; rfl
theorem behind1 : Behind [41] := show itemL [41] = [41] by decide
end Go.Proofs.YtmgkpphbehamcaaGreatDoor.Pure
