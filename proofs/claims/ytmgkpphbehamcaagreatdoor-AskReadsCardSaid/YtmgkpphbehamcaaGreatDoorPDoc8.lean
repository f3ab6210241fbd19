/- The document's reader: the ending, and the whole. -/
import Derived.Test.YtmgkpphbehamcaaGreatDoorPDoc7
namespace Go.Proofs.YtmgkpphbehamcaaGreatDoor.Pure
open Go Go.Gg Go.Gp Gf
set_option linter.unusedVariables false
set_option linter.unusedSimpArgs false
theorem l0_l1 : ∀ (k : Nat) (t : List ByteArray) (acc : List Int) (i : Int) (d : T69), grapevineref14_Reader_ending_l0 t k acc i d = grapevineref14_Reader_ending_l1 t k acc i d
 | 0, _, _, _, _ => rfl
 | k + 1, t, acc, i, d => by
  rw [grapevineref14_Reader_ending_l0, grapevineref14_Reader_ending_l1]; simp only [l0_l1 k]
theorem nums_ev (l : List (List UInt8)) (ws : List ByteArray) (hl : ws.length ≤ 1000000) (hw : ∀ w ∈ ws, w.size ≤ 1000000) : ∀ (n i : Nat) (acc : List Int) (q : DS), i + n = ws.length → acc.length ≤ i →
  ∃ ns b, Ev (fun k => grapevineref14_Reader_ending_l1 ws k acc (i : Int) (dst l q)) (acc ++ ns, dst l ⟨q.at_, b⟩) ∧ ns.length = n ∧ (q.bad = true → b = true) ∧ (q.bad = false → b = (numsL (ws.drop i)).isNone ∧ ∀ ms, numsL (ws.drop i) = some ms → ns = ms)
 | 0, i, acc, q, hi, ha => by
  obtain rfl : i = ws.length := by omega
  refine ⟨[], q.bad, Ev.step (fun k => by rw [grapevineref14_Reader_ending_l1]) (Ev.neg (by omega) ((Ev.now _).is (by rw [List.append_nil]))), rfl, id, fun h => ?_⟩; rw [List.drop_length]; exact ⟨h, fun ms hm => by simpa [numsL] using hm.symm⟩
 | n + 1, i, acc, q, hi, ha => by
  have hil : i < ws.length := by omega
  have hm := hw _ (getD_mem ws ⟨#[]⟩ hil); obtain ⟨r, hr, h1, h2⟩ := rnumber_ev (ws.getD i ⟨#[]⟩).data.toList (by rw [Array.length_toList]; exact hm); have e1 : IntKind.i64.wrap ((i : Int) + 1) = ((i + 1 : Nat) : Int) := by rw [i64w (by omega)]; omega
  obtain ⟨ns, b, h3, h4, h5, h6⟩ := nums_ev l ws hl hw n (i + 1) (acc ++ [r.1]) ⟨q.at_, q.bad || !r.2⟩ (by omega) (by rw [List.length_append, List.length_singleton]; omega); refine ⟨r.1 :: ns, b, Ev.step (fun k => by rw [grapevineref14_Reader_ending_l1]) (Ev.pos (by omega) (Ev.pos (by omega) (Ev.bind (b := r) ?_ ?_))), by rw [List.length_cons, h4], fun h => h5 (by simp [h]), fun h => ?_⟩
  ·rw [Int.toNat_natCast]; exact hr
  ·refine Ev.bind (b := dst l ⟨q.at_, q.bad || !r.2⟩) ?_ (Ev.pos (by rw [List.length_singleton]; omega) ?_)
   ·rw [dst_bad]
    cases hq : q.bad with
    | true => exact Ev.pos rfl ((Ev.now _).is rfl)
    | false => exact Ev.neg (by simp) ((Ev.now _).is rfl)
   ·rw [e1]; refine h3.is ?_; simp
  ·rw [drop_getD ws ⟨#[]⟩ hil, numsL]
   cases hn : numL (ws.getD i ⟨#[]⟩).data.toList with
   | none =>
    rw [hn] at h1; refine ⟨?_, fun ms hm => by cases hm⟩; rw [h5 (by rw [h1, h]; rfl)]; rfl
   | some x =>
    rw [hn] at h1 h2; obtain ⟨h7, h8⟩ := h6 (by rw [h1, h]; rfl); rw [h7]
    dsimp only
    cases hns : numsL (ws.drop (i + 1)) with
    | none => exact ⟨rfl, fun ms hm => by cases hm⟩
    | some ms =>
     refine ⟨rfl, fun ms' hm => ?_⟩; rw [h2 x rfl, h8 ms hns]; exact Option.some.inj hm
def tailR (k : Nat) (d : T69) (a : T34) : Option (T34 × T69) := ((grapevineref14_Reader_peek d).bind fun t56 => ((if (t56.size : Int) > 6 then (if 0 ≤ (0 : Int) ∧ (0 : Int) ≤ (6 : Int) ∧ (6 : Int) ≤ (t56.size : Int) then some ((t56.extract (0 : Int).toNat (6 : Int).toNat).toList == (⟨#[97, 102, 116, 101, 114, 58]⟩ : ByteArray).toList) else none) else some false).bind fun s60 => (if s60 = true then (if 0 ≤ (6 : Int) ∧ (6 : Int) ≤ (t56.size : Int) ∧ (t56.size : Int) ≤ (t56.size : Int) then ((grapevineref14_split k (t56.extract (6 : Int).toNat (t56.size : Int).toNat) 46).bind fun t66 => ((grapevineref14_Reader_ending_l1 t66 k ([] : List Int) 0 d).bind fun s70 => ((if s70.2.f2 = true then some (⟨s70.2.f0, s70.2.f1, true⟩ : T69) else some (⟨s70.2.f0, s70.2.f1, ((s70.1.length : Int) != 4)⟩ : T69)).bind fun s91 => (if (!s91.f2) = true then (if 0 ≤ (0 : Int) ∧ (0 : Int) < (s70.1.length : Int) then (if 0 ≤ (1 : Int) ∧ (1 : Int) < (s70.1.length : Int) then (if 0 ≤ (2 : Int) ∧ (2 : Int) < (s70.1.length : Int) then (if 0 ≤ (3 : Int) ∧ (3 : Int) < (s70.1.length : Int) then (if 0 ≤ (3 : Int) ∧ (3 : Int) < (s70.1.length : Int) then some ((⟨a.f0, a.f1, a.f2, a.f3, a.f4, (s70.1.getD (2 : Int).toNat 0), (s70.1.getD (3 : Int).toNat 0), (s70.1.getD (0 : Int).toNat 0), (s70.1.getD (1 : Int).toNat 0), a.f9⟩ : T34), (⟨s91.f0, IntKind.i64.wrap (s91.f1 + 1), ((s70.1.getD (3 : Int).toNat 0) == 0)⟩ : T69)) else none) else none) else none) else none) else none) else some (a, (⟨s91.f0, IntKind.i64.wrap (s91.f1 + 1), s91.f2⟩ : T69)))))) else none) else some (a, d))))
theorem ending_tail (k : Nat) (d : T69) (a1 : T34) : grapevineref14_Reader_ending k d a1 = ((grapevineref14_Reader_peek d).bind fun t3 => ((grapevineref14_behind k t3 (⟨#[108, 105, 109, 105, 116, 58]⟩ : ByteArray)).bind fun t7 => (if t7.2 = true then tailR k (⟨d.f0, IntKind.i64.wrap (d.f1 + 1), d.f2⟩ : T69) (⟨a1.f0, a1.f1, a1.f2, a1.f3, t7.1, a1.f5, a1.f6, a1.f7, a1.f8, a1.f9⟩ : T34) else tailR k d a1))) := by
 unfold grapevineref14_Reader_ending tailR; simp only [l0_l1]
def setA (a : T34) (ns : List Int) : T34 := ⟨a.f0, a.f1, a.f2, a.f3, a.f4, ns.getD 2 0, ns.getD 3 0, ns.getD 0 0, ns.getD 1 0, a.f9⟩
def AftSpec (l : List (List UInt8)) (q : DS) (a : T34) (a' : T34) (q' : DS) : Prop :=
 q'.at_ ≤ q.at_ + 1 ∧ (q.bad = true → q'.bad = true) ∧ (q.bad = false →
  if 6 < (peekR l q).length ∧ Lib.hasPrefix (peekR l q) AFTER = true then q'.at_ = q.at_ + 1 ∧ (match numsL (splitW 46 ((peekR l q).drop 6)) with
   | none => q'.bad = true
   | some ns => if ns.length ≠ 4 ∨ ns.getD 3 0 = 0 then q'.bad = true else q'.bad = false ∧ a' = setA a ns)
  else q' = q ∧ a' = a)
theorem tail_ev {l : List (List UInt8)} (hlw : ∀ w ∈ l, w.length ≤ 100000) {q : DS} (hq : q.at_ ≤ 100000) (a : T34) : ∃ a' q', Ev (fun k => tailR k (dst l q) a) (a', dst l q') ∧ AftSpec l q a a' q' := by
 have hwl : (peekR l q).length ≤ 100000 := by
  unfold peekR; by_cases h : q.at_ < l.length
  ·exact hlw _ (getD_mem l [] h)
  ·simp [List.getD_eq_getElem?_getD, List.getElem?_eq_none (Nat.le_of_not_lt h)]
 unfold tailR AftSpec; rw [peek_eq]; generalize peekR l q = it at hwl; have hx : (ba it).extract (0 : Int).toNat (6 : Int).toNat = ba (it.take 6) := by rw [ba_extract]; rfl
 have hy : (ba it).extract (6 : Int).toNat ((ba it).size : Int).toNat = ba (it.drop 6) := by rw [ba_extract, ba_size, Int.toNat_natCast, List.take_length]; rfl
 have hz : ((ba (it.take 6)).toList == (⟨#[97, 102, 116, 101, 114, 58]⟩ : ByteArray).toList) = decide (it.take 6 = AFTER) := ba_beq _ AFTER; have htest : (if ((ba it).size : Int) > 6 then (if 0 ≤ (0 : Int) ∧ (0 : Int) ≤ (6 : Int) ∧ (6 : Int) ≤ ((ba it).size : Int) then some (((ba it).extract (0 : Int).toNat (6 : Int).toNat).toList == (⟨#[97, 102, 116, 101, 114, 58]⟩ : ByteArray).toList) else none) else some false) = some (decide (6 < it.length ∧ Lib.hasPrefix it AFTER = true)) := by
  rw [hx, hz, ba_size]; by_cases h6 : 6 < it.length
  ·rw [if_pos (by omega), if_pos (by omega)]
   congr 1
   rw [decide_eq_decide, pre_take]; have : AFTER.length = 6 := rfl; rw [this]; exact ⟨fun h => ⟨h6, by omega, h⟩, fun h => h.2.2⟩
  ·rw [if_neg (by omega), decide_eq_false (fun e => h6 e.1)]
 by_cases hc : 6 < it.length ∧ Lib.hasPrefix it AFTER = true
 case neg =>
  refine ⟨a, q, Ev.bind (Ev.now _) ?_, by omega, id, fun _ => by rw [if_neg hc]; exact ⟨rfl, rfl⟩⟩; rw [htest, decide_eq_false hc]; exact Ev.bind (Ev.now _) (Ev.neg (by simp) (Ev.now _))
 have hsp : Ev (fun k => grapevineref14_split k (ba (it.drop 6)) 46) (splitW 46 (it.drop 6)) := by
  rw [splitW_eq]; exact rsplit_ev (it.drop 6) 46 (by rw [List.length_drop]; omega)
 have hlen := split_len 46 (it.drop 6); have hdl : (it.drop 6).length ≤ 100000 := by rw [List.length_drop]; omega
 have hws : ∀ w ∈ splitW 46 (it.drop 6), w.size ≤ 1000000 := fun w hw => by
  have := split_size (ba [46]) 0 _ _ w hw; rw [ba_size] at this; omega
 obtain ⟨ns, b, h1, h2, h3, h4⟩ := nums_ev l (splitW 46 (it.drop 6)) (by omega) hws (splitW 46 (it.drop 6)).length 0 [] q (by omega) (by simp); rw [List.nil_append] at h1; rw [List.drop_zero] at h4; generalize splitW 46 (it.drop 6) = W at *; have start : ∀ r, Ev (fun k => ((if b = true then some (dst l ⟨q.at_, true⟩) else some (dst l ⟨q.at_, ((ns.length : Int) != 4)⟩)).bind fun s91 => (if (!s91.f2) = true then (if 0 ≤ (0 : Int) ∧ (0 : Int) < (ns.length : Int) then (if 0 ≤ (1 : Int) ∧ (1 : Int) < (ns.length : Int) then (if 0 ≤ (2 : Int) ∧ (2 : Int) < (ns.length : Int) then (if 0 ≤ (3 : Int) ∧ (3 : Int) < (ns.length : Int) then (if 0 ≤ (3 : Int) ∧ (3 : Int) < (ns.length : Int) then some ((⟨a.f0, a.f1, a.f2, a.f3, a.f4, (ns.getD (2 : Int).toNat 0), (ns.getD (3 : Int).toNat 0), (ns.getD (0 : Int).toNat 0), (ns.getD (1 : Int).toNat 0), a.f9⟩ : T34), (⟨s91.f0, IntKind.i64.wrap (s91.f1 + 1), ((ns.getD (3 : Int).toNat 0) == 0)⟩ : T69)) else none) else none) else none) else none) else none) else some (a, (⟨s91.f0, IntKind.i64.wrap (s91.f1 + 1), s91.f2⟩ : T69))))) r → Ev (fun k => ((some (ba it)).bind fun t56 => ((if (t56.size : Int) > 6 then (if 0 ≤ (0 : Int) ∧ (0 : Int) ≤ (6 : Int) ∧ (6 : Int) ≤ (t56.size : Int) then some ((t56.extract (0 : Int).toNat (6 : Int).toNat).toList == (⟨#[97, 102, 116, 101, 114, 58]⟩ : ByteArray).toList) else none) else some false).bind fun s60 => (if s60 = true then (if 0 ≤ (6 : Int) ∧ (6 : Int) ≤ (t56.size : Int) ∧ (t56.size : Int) ≤ (t56.size : Int) then ((grapevineref14_split k (t56.extract (6 : Int).toNat (t56.size : Int).toNat) 46).bind fun t66 => ((grapevineref14_Reader_ending_l1 t66 k ([] : List Int) 0 (dst l q)).bind fun s70 => ((if s70.2.f2 = true then some (⟨s70.2.f0, s70.2.f1, true⟩ : T69) else some (⟨s70.2.f0, s70.2.f1, ((s70.1.length : Int) != 4)⟩ : T69)).bind fun s91 => (if (!s91.f2) = true then (if 0 ≤ (0 : Int) ∧ (0 : Int) < (s70.1.length : Int) then (if 0 ≤ (1 : Int) ∧ (1 : Int) < (s70.1.length : Int) then (if 0 ≤ (2 : Int) ∧ (2 : Int) < (s70.1.length : Int) then (if 0 ≤ (3 : Int) ∧ (3 : Int) < (s70.1.length : Int) then (if 0 ≤ (3 : Int) ∧ (3 : Int) < (s70.1.length : Int) then some ((⟨a.f0, a.f1, a.f2, a.f3, a.f4, (s70.1.getD (2 : Int).toNat 0), (s70.1.getD (3 : Int).toNat 0), (s70.1.getD (0 : Int).toNat 0), (s70.1.getD (1 : Int).toNat 0), a.f9⟩ : T34), (⟨s91.f0, IntKind.i64.wrap (s91.f1 + 1), ((s70.1.getD (3 : Int).toNat 0) == 0)⟩ : T69)) else none) else none) else none) else none) else none) else some (a, (⟨s91.f0, IntKind.i64.wrap (s91.f1 + 1), s91.f2⟩ : T69)))))) else none) else some (a, dst l q))))) r := fun r h => by
  refine Ev.bind (Ev.now _) ?_; rw [htest, decide_eq_true hc, hy]; refine Ev.bind (Ev.now _) (Ev.pos rfl (Ev.pos (by rw [ba_size]; omega) (Ev.bind hsp (Ev.bind h1 ?_)))); exact h
 have nx : ∀ c : Bool, (⟨(dst l ⟨q.at_, c⟩).f0, IntKind.i64.wrap ((dst l ⟨q.at_, c⟩).f1 + 1), c⟩ : T69) = dst l ⟨q.at_ + 1, c⟩ := fun c => dst_next l (q := ⟨q.at_, c⟩) (show q.at_ ≤ 1000000 by omega) c
 cases hb : b with
 | true =>
  rw [hb] at start h3 h4; refine ⟨a, ⟨q.at_ + 1, true⟩, start _ (Ev.bind (Ev.pos rfl (Ev.now _)) (Ev.neg (by rw [dst_bad]; simp) ((Ev.now _).is ?_))), Nat.le_refl _, fun _ => rfl, fun h => ?_⟩
  ·rw [dst_bad, nx]
  ·rw [if_pos hc]; refine ⟨rfl, ?_⟩; obtain ⟨h5, _⟩ := h4 h
   cases hn : numsL W with
   | none => rfl
   | some ms => rw [hn] at h5; cases h5
 | false =>
  rw [hb] at start h3 h4; have hqb : q.bad = false := by
   cases h : q.bad with
   | false => rfl
   | true => cases h3 h
  obtain ⟨h5, h6⟩ := h4 hqb; obtain ⟨ms, hms⟩ : ∃ ms, numsL W = some ms := by
   cases hn : numsL W with
   | none => rw [hn] at h5; cases h5
   | some ms => exact ⟨ms, rfl⟩
  have h6 := h6 ms hms; subst h6; by_cases h4n : ns.length = 4
  ·have e4 : ((ns.length : Int) != 4) = false := by rw [h4n]; rfl
   rw [e4] at start; refine ⟨setA a ns, ⟨q.at_ + 1, (ns.getD 3 0) == 0⟩, start _ (Ev.bind (Ev.neg (by simp) (Ev.now _)) (Ev.pos (by rw [dst_bad]; rfl) (Ev.pos (by omega) (Ev.pos (by omega) (Ev.pos (by omega) (Ev.pos (by omega) (Ev.pos (by omega) ((Ev.now _).is ?_)))))))), Nat.le_refl _, fun h => (by rw [hqb] at h; cases h), fun _ => ?_⟩
   ·rw [dst_next l (q := ⟨q.at_, false⟩) (show q.at_ ≤ 1000000 by omega)]; rfl
   ·rw [if_pos hc, hms]; refine ⟨rfl, ?_⟩
    dsimp only
    by_cases h0 : ns.getD 3 0 = 0
    ·rw [if_pos (.inr h0), h0]; rfl
    ·rw [if_neg (fun e => e.elim (fun e => e h4n) h0)]; exact ⟨by simpa using h0, rfl⟩
  ·have e4 : ((ns.length : Int) != 4) = true := by rw [bne_iff_ne]; omega
   rw [e4] at start; refine ⟨a, ⟨q.at_ + 1, true⟩, start _ (Ev.bind (Ev.neg (by simp) (Ev.now _)) (Ev.neg (by rw [dst_bad]; simp) ((Ev.now _).is ?_))), Nat.le_refl _, fun _ => rfl, fun h => ?_⟩
   ·rw [dst_bad, nx]
   ·rw [if_pos hc, hms]; exact ⟨rfl, by dsimp only; rw [if_pos (.inl h4n)]⟩
end Go.Proofs.YtmgkpphbehamcaaGreatDoor.Pure
