/- Records sorted by the document's own text; lists of records kept and written over. -/
import Derived.Test.YtbphlohiealbeaaGreatDoorF8
import Derived.Test.YtbphlohiealbeaaGreatDoorF9
import Derived.Test.YtbphlohiealbeaaGreatDoorPScanK
namespace Go.Proofs.YtbphlohiealbeaaGreatDoor.Pure
open Go Go.Gg Go.Gp Gf
set_option linter.unusedVariables false
set_option linter.unusedSimpArgs false
theorem rplace_ev (l0 ys : List T31) (i : Nat) (hi : i < l0.length) : ∀ (n : Nat) (u1 u2 : List T31), u1.length = n → ys = u1 ++ u2 → ys.length < 1073741824 → (∀ y ∈ u2, ltr (l0.getD i z31) y = true) →
  ∃ v1 v2, ys = v1 ++ v2 ∧ (∀ y ∈ v2, ltr (l0.getD i z31) y = true) ∧ (∀ u y, v1 = u ++ [y] → ltr (l0.getD i z31) y = false) ∧
   Ev (fun k => grapevineref4_Sort_l1 l0 ys (i : Int) k (u1.length : Int)) (v1.length : Int) := by
 intro n
 induction n with
 | zero =>
  intro u1 u2 hn hy hl h
  have : u1 = [] := List.eq_nil_of_length_eq_zero hn
  subst this
  refine ⟨[], ys, rfl, by rw [hy]; simpa using h, by simp, Ev.step (g := fun _ => some 0) (fun k => ?_) (Ev.now _)⟩
  rw [grapevineref4_Sort_l1, if_neg (by simp)]
  rfl
 | succ n ih =>
  intro u1 u2 hn hy hl h
  obtain ⟨u', u, rfl⟩ : ∃ us' u, u1 = us' ++ [u] := ⟨u1.dropLast, u1.getLast (by intro h; rw [h] at hn; simp at hn), (List.dropLast_concat_getLast _).symm⟩
  simp only [List.length_append, List.length_singleton] at hn
  have hyl : ys.length = u'.length + 1 + u2.length := by rw [hy]; simp; omega
  have e1 : IntKind.i64.wrap (((u' ++ [u]).length : Int) - 1) = (u'.length : Int) := by rw [i64w (by simp; omega)]; simp
  have eg : ys.getD u'.length z31 = u := by
   rw [hy, List.append_assoc]; have := getD_app_right u' ([u] ++ u2) z31 0; exact this
  have hs : ∀ k, grapevineref4_Sort_l1 l0 ys (i : Int) (k + 1) ((u' ++ [u]).length : Int) = if ltr (l0.getD i z31) u = true then grapevineref4_Sort_l1 l0 ys (i : Int) k (u'.length : Int) else some ((u' ++ [u]).length : Int) := fun k => by
   rw [grapevineref4_Sort_l1, if_pos (by simp), e1, if_pos (by omega), if_pos (by omega)]
   simp only [Int.toNat_natCast, eg, rLess_some, Option.bind_some]
  cases e : ltr (l0.getD i z31) u
  ·refine ⟨u' ++ [u], u2, hy, h, fun w y hw => ?_, Ev.step (g := fun _ => some ((u' ++ [u]).length : Int)) (fun k => by rw [hs, e]; rfl) (Ev.now _)⟩
   have := List.append_inj_right' hw (by simp)
   simp at this; subst this; exact e
  ·obtain ⟨v1, v2, g1, g2, g3, g4⟩ := ih u' (u :: u2) (by omega) (by rw [hy]; simp) hl (fun y hy => by
    rcases List.mem_cons.1 hy with rfl | hy
    ·exact e
    ·exact h y hy)
   exact ⟨v1, v2, g1, g2, g3, Ev.step (fun k => by rw [hs, e]; rfl) g4⟩
theorem rSort_ev (xs : List T31) (hl : xs.length < 1073741824) : ∃ t, Srt ltr t ∧ SE ltr xs t ∧ Ev (fun k => grapevineref4_Sort k xs) t := by
 have key : ∀ (n i : Nat) (ys : List T31), i + n = xs.length → Srt ltr ys → SE ltr (xs.take i) ys → ∃ t, Srt ltr t ∧ SE ltr xs t ∧ Ev (fun k => grapevineref4_Sort_l0 xs k ys (i : Int)) t := by
  intro n
  induction n with
  | zero =>
   intro i ys hi hs he
   refine ⟨ys, hs, by rw [List.take_of_length_le (by omega)] at he; exact he, Ev.step (g := fun _ => some ys) (fun k => ?_) (Ev.now _)⟩
   rw [grapevineref4_Sort_l0, if_neg (by omega)]
  | succ n ih =>
   intro i ys hi hs he
   have hyl := SE.length he
   rw [List.length_take] at hyl
   obtain ⟨v1, v2, g1, g2, g3, g4⟩ := rplace_ev xs ys i (by omega) ys.length ys [] rfl (by simp) (by omega) (by simp)
   have hs' := hs; rw [g1] at hs'
   obtain ⟨q1, q2, q3⟩ := List.pairwise_append.1 hs'
   have hyl2 : ys.length = v1.length + v2.length := by rw [g1]; simp
   obtain ⟨x, hx⟩ : ∃ x, x = xs.getD i z31 := ⟨_, rfl⟩
   rw [← hx] at g2 g3
   have hsrt : Srt ltr (v1 ++ x :: v2) := by
    refine Srt.append q1 (List.pairwise_cons.2 ⟨fun y hy => ltr_swo.asym (g2 y hy), q2⟩) fun y hy z hz => ?_
    rcases List.mem_cons.1 hz with rfl | hz
    ·obtain ⟨j, hj, e⟩ := List.mem_iff_getElem.1 hy
     have hne : v1 ≠ [] := fun h => by rw [h] at hy; cases hy
     have hlast := g3 v1.dropLast (v1.getLast hne) (List.dropLast_concat_getLast hne).symm
     have : ltr (v1.getLast hne) y = false := by
      have h5 := srt_getD q1 (i := j) (j := v1.length - 1) (by omega) (by omega)
      rw [getD_eq v1 z31 hj, getD_eq v1 z31 (by omega), e] at h5
      rw [List.getLast_eq_getElem]; exact h5
     exact ltr_swo.ntr this hlast
    ·exact q3 y hy z hz
   have hse : SE ltr (xs.take (i + 1)) (v1 ++ x :: v2) := by
    rw [take_getD xs z31 (by omega), ← hx]
    have h5 : SE ltr (v2 ++ [x]) ([x] ++ v2) := SE.swap ltr_swo fun a ha y hy => by simp at hy; subst hy; exact g2 a ha
    have h6 := he.append (SE.refl [x])
    rw [g1] at h6
    refine h6.trans ?_
    have h7 := (SE.refl v1).append h5
    simpa using h7
   obtain ⟨t, k1, k2, k3⟩ := ih (i + 1) (v1 ++ x :: v2) (by omega) hsrt hse
   have g5 : Ev (fun k => grapevineref4_Sort_l0 xs (k + 1) ys (i : Int)) t := by
    have hs : ∀ k, grapevineref4_Sort_l0 xs (k + 1) ys (i : Int) = _ := fun k => by rw [grapevineref4_Sort_l0, if_pos (show (i : Int) < (xs.length : Int) by omega), i64w (x := (i : Int) + 1) (by omega)]
    refine Ev.congr hs (Ev.bind g4 (Ev.bind (b := v1 ++ x :: v2) ((Ev.now _).congr fun k => ?_) k3))
    have t1 : ys.take v1.length = v1 := by rw [g1]; simp
    have t2 : ys.drop v1.length = v2 := by rw [g1]; simp
    have t3 : (ys.take (ys.length : Int).toNat) = ys := by simp
    have t0 : (0 : Int).toNat = 0 := rfl
    simp only [Int.toNat_natCast, t0, List.drop_zero, t1, t2, t3, List.take_length, List.nil_append, ← hx]
    rw [if_pos (by omega), if_pos (by omega), if_pos (by omega), if_pos (by simp; omega), if_pos (by simp; omega), if_pos (by simp; omega)]
    simp
   exact ⟨t, k1, k2, Ev.step (fun k => rfl) g5⟩
 obtain ⟨t, h1, h2, h3⟩ := key xs.length 0 [] (by simp) List.Pairwise.nil (SE.refl _)
 exact ⟨t, h1, h2, Ev.bind h3 (Ev.now _)⟩
theorem KeptRecords_ev (a : List T31) (ha : a.length ≤ 100000) : Ev (fun k => grapevinelaw0_KeptRecords k a a) true := by
 have e : IntKind.i64.wrap ((a.length : Int) + 3) = (a.length : Int) + 3 := i64w (by omega)
 obtain ⟨m, hm⟩ : ∃ m : T31, m = ⟨0, 0, 0, 0, (⟨#[114, 111, 111, 109]⟩ : ByteArray)⟩ := ⟨_, rfl⟩
 have em : ((a ++ ([m, m, m] : List T31)).take ((a.length : Int) + 3).toNat).drop (a.length : Int).toNat = [m, m, m] := by
  rw [show ((a.length : Int) + 3).toNat = a.length + 3 by omega, List.take_of_length_le (by simp)]
  simp
 unfold grapevinelaw0_KeptRecords
 rw [e, ← hm]
 refine Ev.pos ⟨by omega, by omega, by simp⟩ ?_
 simp only [em]
 refine Ev.name fun v hv => ?_
 subst hv
 have key : ∀ (i : Nat), i ≤ 3 → Ev (fun k => grapevinelaw0_KeptRecords_l0 [m, m, m] k ((3 - i : Nat) : Int)) (Sum.inr ()) := by
  intro i
  induction i with
  | zero =>
   intro _
   refine Ev.step (fun k => by rw [grapevinelaw0_KeptRecords_l0]) ?_
   exact Ev.neg (by omega) (Ev.now _)
  | succ i ih =>
   intro hi
   have ih := ih (by omega)
   refine Ev.step (fun k => by rw [grapevinelaw0_KeptRecords_l0]) ?_
   refine Ev.pos (by omega) (Ev.pos (by simp; omega) (Ev.neg ?_ ?_))
   ·rw [← hm]
    have : i = 0 ∨ i = 1 ∨ i = 2 := by omega
    rcases this with rfl | rfl | rfl <;> simp
   ·rw [i64w (by omega), show (((3 - (i + 1) : Nat) : Int) + 1) = ((3 - i : Nat) : Int) by omega]
    exact ih
 refine Ev.bind (key 3 (by omega)) ?_
 exact Ev.bind (SameR_self a (by omega)) (Ev.now _)
theorem OverRecords_ev (a : List T31) (ha : a.length < 1073741824) : Ev (fun k => grapevinelaw0_OverRecords k a) () := by
 unfold grapevinelaw0_OverRecords
 obtain ⟨r, hr, hE⟩ := Ev.loop (F := fun k (s : Int × List T31) => grapevinelaw0_OverRecords_l0 k s.1 s.2) (fun s n => 0 ≤ s.1 ∧ s.1 + n = a.length ∧ s.2.length = a.length) (fun r => r.length = a.length) (fun s n hI => by
  obtain ⟨h0, hn, hl⟩ := hI
  by_cases h1 : s.1 < (s.2.length : Int)
  ·refine .inr ⟨(s.1 + 1, s.2.set s.1.toNat (⟨0, 0, 0, 0, (⟨#[111, 118, 101, 114]⟩ : ByteArray)⟩ : T31)), n - 1, by omega, ⟨by simp; omega, by simp; omega, by simpa using hl⟩, fun r H => ?_⟩
   refine Ev.step (fun k => by rw [grapevinelaw0_OverRecords_l0]) ?_
   refine Ev.pos h1 (Ev.pos (by omega) ?_)
   rw [i64w (by omega)]
   exact H
  ·refine .inl ⟨s.2, hl, ?_⟩
   refine Ev.step (fun k => by rw [grapevinelaw0_OverRecords_l0]) ?_
   exact Ev.neg h1 (Ev.now _)) (0, a) a.length ⟨by simp, by simp, rfl⟩
 refine Ev.bind hE ?_
 exact Ev.pos (by simp; omega) (Ev.now _)
end Go.Proofs.YtbphlohiealbeaaGreatDoor.Pure
