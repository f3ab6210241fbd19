/- The document's reader in plain words: an item without parts. -/
import Derived.Test.YtmgkpphbehamcaaGreatDoorPDoc3
namespace Go.Proofs.YtmgkpphbehamcaaGreatDoor.Pure
open Go Go.Gg Go.Gp Gf
set_option linter.unusedVariables false
set_option linter.unusedSimpArgs false
theorem oth34 : oth ((34 : UInt8).toNat : Int) = true := by decide +kernel
theorem oth42 : oth ((42 : UInt8).toNat : Int) = true := by decide +kernel
theorem one_quote : oneD (ba [34]) = false := by
 cases h : oneD (ba [34]) with
 | false => rfl
 | true => exact absurd (List.mem_singleton.2 rfl) (one_no (by decide) oth34 h)
theorem one_star : oneD (ba [42]) = false := by
 cases h : oneD (ba [42]) with
 | false => rfl
 | true => exact absurd (List.mem_singleton.2 rfl) (one_no (by decide) oth42 h)
theorem one_nil : oneD (ba []) = false := by decide +kernel
theorem okW_one {k : Int} {w : ByteArray} (h : oneD w = false) : okW k w = false := by unfold okW; rw [h]; rfl
theorem okW_kind {k : Int} (h : k ≠ 3) (w : ByteArray) : okW k w = okW 1 w := by
 unfold okW; rw [decide_eq_false h, decide_eq_false (p := (1 : Int) = 3) (by decide)]
theorem okW_three : okW 3 = oneD := by
 funext w; unfold okW; simp
theorem words_one (k : Int) (w : ByteArray) (p : PS) : wordsP k [w] p = if okW k w = true then (⟨k, 0, [normD w], []⟩, p) else failP p := by
 unfold wordsP; simp
def LeafR (it : List UInt8) (r : T26 × Bool) : Prop := (r.2 = true → ∀ p, leafP it p = (r.1, p)) ∧ (r.2 = false → ∀ p, (leafP it p).2.bad = true)
theorem quote_form {it : List UInt8} (h1 : it.head? = some 34) (h2 : 2 ≤ it.length) (h3 : it.getLast? = some 34) : ∃ m, it = 34 :: (m ++ [34]) := by
 cases it with
 | nil => cases h1
 | cons b t =>
  simp only [List.head?_cons, Option.some.injEq] at h1; subst h1
  cases t with
  | nil => simp at h2
  | cons c u =>
   rw [List.getLast?_cons_cons] at h3; obtain ⟨ys, hy⟩ := List.getLast?_eq_some_iff.1 h3; exact ⟨ys, by rw [hy]⟩
theorem told_quote (t : List UInt8) (w : List UInt8) (hw : w.head? ≠ some 34) (h0 : w ≠ []) : toldL (34 :: t) w = none := by
 unfold toldL; rw [if_neg]
 cases w with
 | nil => exact absurd rfl h0
 | cons b u =>
  simp only [List.head?_cons, ne_eq, Option.some.injEq] at hw; simp [Lib.hasPrefix, List.isPrefixOf, hw]
theorem leaf_quote (m : List UInt8) (p : PS) : leafP (34 :: (m ++ [34])) p = wordsP 3 (splitW 32 m) p := by
 unfold leafP; rw [told_quote _ FROM (by decide) (by decide), told_quote _ SINCE (by decide) (by decide), told_quote _ UNTIL (by decide) (by decide)]
 dsimp only
 have h1 : Lib.hasSuffix (m ++ [34]) [34] = true := by simp [Lib.hasSuffix]
 rw [if_pos (by rfl), List.tail_cons, if_pos h1]
 congr 2
 simp
theorem rleaf_ev {it : List UInt8} (hl : it.length ≤ 100000) (hq : it.head? = some 34 → 2 ≤ it.length → it.getLast? = some 34) : ∃ r, Ev (fun k => grapevineref14_leaf k (ba it)) r ∧ LeafR it r := by
 unfold grapevineref14_leaf; rw [ba_size]; have e1 : 1 ≤ it.length → IntKind.i64.wrap ((it.length : Int) - 1) = ((it.length - 1 : Nat) : Int) := fun h => by rw [i64w (by omega)]; omega
 by_cases hA : it.head? = some 34 ∧ 2 ≤ it.length
 ·obtain ⟨m, rfl⟩ := quote_form hA.1 hA.2 (hq hA.1 hA.2); rw [e1 (by omega)]; have hlen : (34 :: (m ++ [34]) : List UInt8).length = m.length + 2 := by simp
  have hx : (ba (34 :: (m ++ [34]))).extract (1 : Int).toNat (((34 :: (m ++ [34]) : List UInt8).length - 1 : Nat) : Int).toNat = ba m := by
   rw [ba_extract, Int.toNat_natCast, hlen]; have : m.length + 2 - 1 = m.length + 1 := by omega
   rw [this, List.take_succ_cons]; simp
  rw [hx, hlen]; rw [hlen] at hl; obtain ⟨r, hr, h1, h2⟩ := rphrase_ev m (by omega); refine ⟨(⟨3, 0, r.1, []⟩, r.2), Ev.bind (b := true) (Ev.pos (by omega) (Ev.pos (by omega) ((Ev.now _).is rfl))) (Ev.pos rfl (Ev.pos (by omega) (Ev.bind hr (Ev.now _)))), ?_, ?_⟩
  ·intro h p; rw [leaf_quote]; unfold wordsP; rw [okW_three, if_pos (h1 ▸ h), h2 h]
  ·intro h p; rw [leaf_quote]; unfold wordsP; rw [okW_three, if_neg (by rw [← h1]; simpa using h)]; rfl
 ·have hs2 : Ev (fun k => (if (it.length : Int) ≥ 2 then (if 0 ≤ (0 : Int) ∧ (0 : Int) < (it.length : Int) then some ((bt (ba it) 0) == 34) else none) else some false)) false := by
   by_cases h2 : (it.length : Int) ≥ 2
   ·refine Ev.pos h2 (Ev.pos (by omega) ((Ev.now _).is ?_)); have h0 : bt (ba it) 0 = ((it.getD 0 0).toNat : Int) := bt_get (i := 0) (by omega); rw [h0, beq_eq_false_iff_ne]; intro e; have e : it.getD 0 0 = 34 := (nat_u8 (b := 34)).1 e; refine hA ⟨?_, by omega⟩
    cases it with
    | nil => simp at h2
    | cons b t => simpa using e
   ·exact Ev.neg h2 (Ev.now _)
  obtain ⟨ra, hra, ha1, ha2⟩ := rbehind_ev it FROM (by omega); obtain ⟨rb, hrb, hb1, hb2⟩ := rbehind_ev it SINCE (by omega); obtain ⟨rc, hrc, hc1, hc2⟩ := rbehind_ev it UNTIL (by omega)
  suffices hz : ∃ r, Ev (fun k => (if ra.2 = true then some ((⟨4, ra.1, ([] : List ByteArray), ([] : List T26)⟩ : T26), true) else (if rb.2 = true then some ((⟨5, rb.1, ([] : List ByteArray), ([] : List T26)⟩ : T26), true) else (if rc.2 = true then some ((⟨6, rc.1, ([] : List ByteArray), ([] : List T26)⟩ : T26), true) else ((if (it.length : Int) > 1 then (if 0 ≤ (IntKind.i64.wrap ((it.length : Int) - 1)) ∧ (IntKind.i64.wrap ((it.length : Int) - 1)) < (it.length : Int) then some ((bt (ba it) (IntKind.i64.wrap ((it.length : Int) - 1))) == 42) else none) else some false).bind fun s27 => (if s27 = true then (if 0 ≤ (0 : Int) ∧ (0 : Int) ≤ (IntKind.i64.wrap ((it.length : Int) - 1)) ∧ (IntKind.i64.wrap ((it.length : Int) - 1)) ≤ (it.length : Int) then ((grapevineref14_plain k ((ba it).extract (0 : Int).toNat (IntKind.i64.wrap ((it.length : Int) - 1)).toNat)).bind fun t33 => some ((⟨2, 0, ([t33.1] : List ByteArray), ([] : List T26)⟩ : T26), t33.2)) else none) else ((grapevineref14_plain k (ba it)).bind fun t40 => some ((⟨1, 0, ([t40.1] : List ByteArray), ([] : List T26)⟩ : T26), t40.2)))))))) r ∧ LeafR it r by
   obtain ⟨r, hr, h⟩ := hz; exact ⟨r, Ev.bind hs2 (Ev.neg (by simp) (Ev.bind hra (Ev.bind hrb (Ev.bind hrc hr)))), h⟩
  unfold LeafR leafP
  cases hfa : toldL it FROM with
  | some n =>
   rw [hfa] at ha1 ha2; exact ⟨_, Ev.pos ha1 (Ev.now _), fun _ p => by rw [ha2 n rfl], fun e => by cases e⟩
  | none =>
   rw [hfa] at ha1
   cases hfb : toldL it SINCE with
   | some n =>
    rw [hfb] at hb1 hb2; exact ⟨_, Ev.neg (by simp [ha1]) (Ev.pos hb1 (Ev.now _)), fun _ p => by rw [hb2 n rfl], fun e => by cases e⟩
   | none =>
    rw [hfb] at hb1
    cases hfc : toldL it UNTIL with
    | some n =>
     rw [hfc] at hc1 hc2; exact ⟨_, Ev.neg (by simp [ha1]) (Ev.neg (by simp [hb1]) (Ev.pos hc1 (Ev.now _))), fun _ p => by rw [hc2 n rfl], fun e => by cases e⟩
    | none =>
     rw [hfc] at hc1
     dsimp only
     suffices hy : ∃ r, Ev (fun k => ((if (it.length : Int) > 1 then (if 0 ≤ (IntKind.i64.wrap ((it.length : Int) - 1)) ∧ (IntKind.i64.wrap ((it.length : Int) - 1)) < (it.length : Int) then some ((bt (ba it) (IntKind.i64.wrap ((it.length : Int) - 1))) == 42) else none) else some false).bind fun s27 => (if s27 = true then (if 0 ≤ (0 : Int) ∧ (0 : Int) ≤ (IntKind.i64.wrap ((it.length : Int) - 1)) ∧ (IntKind.i64.wrap ((it.length : Int) - 1)) ≤ (it.length : Int) then ((grapevineref14_plain k ((ba it).extract (0 : Int).toNat (IntKind.i64.wrap ((it.length : Int) - 1)).toNat)).bind fun t33 => some ((⟨2, 0, ([t33.1] : List ByteArray), ([] : List T26)⟩ : T26), t33.2)) else none) else ((grapevineref14_plain k (ba it)).bind fun t40 => some ((⟨1, 0, ([t40.1] : List ByteArray), ([] : List T26)⟩ : T26), t40.2))))) r ∧ ((r.2 = true → ∀ p, (if it.head? = some 34 then (if Lib.hasSuffix it.tail [34] = true then wordsP 3 (splitW 32 (it.tail.take (it.tail.length - 1))) p else failP p)
    else if Lib.hasSuffix it [42] = true then wordsP 2 [ba (it.take (it.length - 1))] p
    else wordsP 1 [ba it] p) = (r.1, p)) ∧ (r.2 = false → ∀ p, (if it.head? = some 34 then (if Lib.hasSuffix it.tail [34] = true then wordsP 3 (splitW 32 (it.tail.take (it.tail.length - 1))) p else failP p)
    else if Lib.hasSuffix it [42] = true then wordsP 2 [ba (it.take (it.length - 1))] p
    else wordsP 1 [ba it] p).2.bad = true)) by
      obtain ⟨r, hr, h⟩ := hy; exact ⟨r, Ev.neg (by simp [ha1]) (Ev.neg (by simp [hb1]) (Ev.neg (by simp [hc1]) hr)), h⟩
     have plain : ∀ v : List UInt8, v.length ≤ 100000 → ∃ r, Ev (fun k => grapevineref14_plain k (ba v)) r ∧ r.2 = okW 1 (ba v) ∧ (r.2 = true → r.1 = normD (ba v)) := fun v hv => rplain_ev (ba v) (by rw [ba_size]; omega)
     obtain ⟨rw_, hrw, hw1, hw2⟩ := plain it hl; by_cases h34 : it.head? = some 34
     ·have hone : it = [34] := by
       cases it with
       | nil => cases h34
       | cons b t =>
        simp only [List.head?_cons, Option.some.injEq] at h34; subst h34
        cases t with
        | nil => rfl
        | cons c u => exact absurd ⟨rfl, by simp⟩ hA
      subst hone; refine ⟨_, Ev.bind (b := false) (Ev.neg (by decide) (Ev.now _)) (Ev.neg (by simp) (Ev.bind hrw (Ev.now _))), fun e => ?_, fun _ p => rfl⟩; have : rw_.2 = true := e; rw [hw1, okW_one one_quote] at this
      cases this
     ·simp only [if_neg h34]; by_cases h42 : Lib.hasSuffix it [42] = true
      ·simp only [if_pos h42]; have hsuf : [42] <:+ it := by simpa [Lib.hasSuffix] using h42
       obtain ⟨u, rfl⟩ := hsuf; have hlen : (u ++ [42]).length = u.length + 1 := by simp
       have htk : (u ++ [42]).take ((u ++ [42]).length - 1) = u := by simp
       rw [htk]; rw [hlen] at hl e1 ⊢; rw [e1 (by omega)]; have e2 : u.length + 1 - 1 = u.length := by omega
       rw [e2]
       cases u with
       | nil =>
        refine ⟨_, Ev.bind (b := false) (Ev.neg (by decide) (Ev.now _)) (Ev.neg (by simp) (Ev.bind hrw (Ev.now _))), fun e => ?_, fun _ p => ?_⟩
        ·have : rw_.2 = true := e; rw [hw1, show (([] : List UInt8) ++ [42]) = [42] from rfl, okW_one one_star] at this
         cases this
        ·rw [words_one, okW_one one_nil]; rfl
       | cons b t =>
        have hx : (ba ((b :: t) ++ [42])).extract (0 : Int).toNat (((b :: t).length : Nat) : Int).toNat = ba (b :: t) := by
         rw [ba_extract, Int.toNat_natCast]; simp
        rw [hx]; have hb42 : bt (ba ((b :: t) ++ [42])) (((b :: t).length : Nat) : Int) = 42 := by
         rw [bt_get (by simp)]; simp
        rw [hb42]; obtain ⟨rv, hrv, hv1, hv2⟩ := plain (b :: t) (by omega); have hpos : 1 ≤ (b :: t).length := by simp
        generalize (b :: t).length = L at *; refine ⟨_, Ev.bind (b := true) (Ev.pos (by omega) (Ev.pos (by omega) (Ev.now _))) (Ev.pos rfl (Ev.pos (by omega) (Ev.bind hrv (Ev.now _)))), fun e p => ?_, fun e p => ?_⟩
        ·have e : rv.2 = true := e; rw [words_one, okW_kind (by decide), if_pos (hv1 ▸ e), hv2 e]
        ·have e : rv.2 = false := e; rw [words_one, okW_kind (by decide), if_neg (by rw [← hv1]; simpa using e)]; rfl
      ·simp only [if_neg h42]; refine ⟨_, Ev.bind (b := false) ?_ (Ev.neg (by simp) (Ev.bind hrw (Ev.now _))), fun e p => ?_, fun e p => ?_⟩
       ·by_cases h1 : (it.length : Int) > 1
        ·refine Ev.pos h1 ?_; rw [e1 (by omega)]; refine Ev.pos (by omega) ((Ev.now _).is ?_); rw [bt_get (by omega), beq_eq_false_iff_ne]; intro e; have e : it.getD (it.length - 1) 0 = 42 := (nat_u8 (b := 42)).1 e; refine h42 ?_; have hs := List.dropLast_concat_getLast (l := it) (by intro h; rw [h] at h1; simp at h1); have hg : it.getLast (by intro h; rw [h] at h1; simp at h1) = 42 := by
          rw [List.getLast_eq_getElem, ← e, getD_eq _ _ (by omega)]
         rw [hg] at hs; rw [← hs]; simp [Lib.hasSuffix]
        ·exact Ev.neg h1 (Ev.now _)
       ·have e : rw_.2 = true := e; rw [words_one, if_pos (hw1 ▸ e), hw2 e]
       ·have e : rw_.2 = false := e; rw [words_one, if_neg (by rw [← hw1]; simpa using e)]; rfl
end Go.Proofs.YtmgkpphbehamcaaGreatDoor.Pure
