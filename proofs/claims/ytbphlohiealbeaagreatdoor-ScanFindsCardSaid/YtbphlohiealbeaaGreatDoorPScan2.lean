/- Records compared, great lists, and what every program answers that is one. -/
import Derived.Test.YtbphlohiealbeaaGreatDoorF0
import Derived.Test.YtbphlohiealbeaaGreatDoorF3
import Derived.Test.YtbphlohiealbeaaGreatDoorF4
import Derived.Test.YtbphlohiealbeaaGreatDoorPScan0
namespace Go.Proofs.YtbphlohiealbeaaGreatDoor.Pure
open Go Go.Gg Go.Gp Gf
set_option linter.unusedVariables false
set_option linter.unusedSimpArgs false
theorem SameR_self (a : List T31) (hl : a.length < 1000000) : Ev (fun k => grapevinelaw0_SameRecords k a a) true := by
 unfold grapevinelaw0_SameRecords
 refine Ev.neg (by simp) ?_
 have := Ev.count (F := fun k (_ : Unit) i => grapevinelaw0_SameRecords_l0 a a k i) (r := Sum.inr ()) (fun _ => ()) a.length (fun j hj r H => by
  refine Ev.step (fun k => by rw [grapevinelaw0_SameRecords_l0]) ?_
  refine Ev.pos (by omega) (Ev.pos (by omega) (Ev.pos (by omega) (Ev.neg (by simp) ?_)))
  rw [step64 j (by omega)]; exact H) (by
  refine Ev.step (fun k => by rw [grapevinelaw0_SameRecords_l0]) ?_
  exact Ev.neg (by omega) (Ev.now _))
 exact Ev.bind this (Ev.now _)
theorem GreatR_ev (l : List T31) (m : Int) (hm : 0 ≤ m ∧ m < 1000) : ∃ r, Ev (fun k => grapevinelaw0_GreatRecords k l m) r ∧ (r = false → (l.length : Int) ≤ m) := by
 unfold grapevinelaw0_GreatRecords
 by_cases h : (l.length : Int) ≤ m
 case neg =>
  refine ⟨true, ?_, fun e => by cases e⟩
  refine Ev.bind (b := Sum.inr ()) (Ev.step (fun k => by rw [grapevinelaw0_GreatRecords_l0]) ?_) ((Ev.now _).is (decide_eq_true (by omega)))
  refine Ev.bind (b := false) ?_ (Ev.neg Bool.false_ne_true (Ev.now _))
  exact Ev.ite (fun _ => (Ev.now _).is (decide_eq_false h)) (fun _ => Ev.now _)
 obtain ⟨r, hr, hE⟩ := Ev.loop (F := fun k (s : Int) => grapevinelaw0_GreatRecords_l0 l m k s) (fun s n => 0 ≤ s ∧ s + n = l.length) (fun r => r = Sum.inl true ∨ r = Sum.inr ()) (fun s n ⟨h0, hn⟩ => by
  by_cases h1 : s < (l.length : Int)
  ·by_cases h2 : ((l.getD s.toNat z31).f4.size : Int) > 300
   ·refine .inl ⟨Sum.inl true, .inl rfl, ?_⟩
    refine Ev.step (fun k => by rw [grapevinelaw0_GreatRecords_l0]) ?_
    refine Ev.bind (b := true) (Ev.pos h1 ((Ev.now _).is (decide_eq_true h))) (Ev.pos rfl ?_)
    exact Ev.pos (by omega) (Ev.pos h2 (Ev.now _))
   ·refine .inr ⟨s + 1, n - 1, by omega, ⟨by omega, by omega⟩, fun r H => ?_⟩
    refine Ev.step (fun k => by rw [grapevinelaw0_GreatRecords_l0]) ?_
    refine Ev.bind (b := true) (Ev.pos h1 ((Ev.now _).is (decide_eq_true h))) (Ev.pos rfl ?_)
    refine Ev.pos (by omega) (Ev.neg h2 ?_)
    rw [i64w (by omega)]; exact H
  ·refine .inl ⟨Sum.inr (), .inr rfl, ?_⟩
   refine Ev.step (fun k => by rw [grapevinelaw0_GreatRecords_l0]) ?_
   exact Ev.bind (b := false) (Ev.neg h1 (Ev.now _)) (Ev.neg Bool.false_ne_true (Ev.now _))) 0 l.length ⟨by omega, by omega⟩
 rcases hr with rfl | rfl
 ·exact ⟨true, Ev.bind hE (Ev.now _), fun e => by cases e⟩
 ·exact ⟨false, Ev.bind hE ((Ev.now _).is (decide_eq_false (by omega))), fun _ => h⟩
theorem find_is {q : T33} (h9 : q.f9.size ≤ 9223372036854775807) (hs : SmallN 1 (askOf q)) (hc : cntN 1 (askOf q) ≤ 1000) (l t : List T31) (hl : l.length ≤ 1000000) (hr : ∀ r ∈ l, r.f4.size ≤ 9223372036854775807)
  (hm : mayQ 1 q = true) (hsr : Srt ltr t) (hse : SE ltr (l.filter (hitB 1 q)) t) : Ev (fun k => scan_Find k q l) (t.take q.f4.toNat) := by
 obtain ⟨r, h1, _, hE⟩ := Find_ev (d := 1) (by decide) h9 hs hc l hl hr
 obtain ⟨_, _, u, hu, su, rfl⟩ := h1 hm
 have : u = t := Srt.uniq ltr_swo hu hsr (su.symm.trans hse)
 rw [← this]; exact hE
def R1 : T31 := ⟨1, 1, 8, 0, ⟨#[120, 32, 121]⟩⟩
def R2 : T31 := ⟨1, 2, 7, 0, ⟨#[120]⟩⟩
def qA (o s w c : Int) (m : Int) : T33 := ⟨1, 0, [⟨#[120]⟩], [], m, o, s, w, c, ⟨#[]⟩⟩
theorem qA_small (o s w c m : Int) : SmallN 1 (askOf (qA o s w c m)) ∧ cntN 1 (askOf (qA o s w c m)) ≤ 1000 := small_leaf (x := askOf (qA o s w c m)) (by show 1 ≤ 300; omega) (by intro w hw; have hw : w ∈ [(⟨#[120]⟩ : ByteArray)] := hw; simp at hw; subst hw; decide) rfl
theorem R_size : ∀ r ∈ [R1, R2], r.f4.size ≤ 9223372036854775807 := by decide
theorem find0 : Ev (fun k => scan_Find k (qA 0 0 0 0 1) [R1, R2]) [R2] := by
 have s := qA_small 0 0 0 0 1
 exact find_is (q := qA 0 0 0 0 1) (by decide) s.1 s.2 [R1, R2] [R2, R1] (by decide) R_size (by decide +kernel) (by unfold Srt; decide +kernel) (by
  rw [show [R1, R2].filter (hitB 1 (qA 0 0 0 0 1)) = [R1] ++ [R2] by decide +kernel]
  exact SE.swap ltr_swo fun x hx y hy => by
   simp only [List.mem_singleton] at hx hy
   subst hx; subst hy; decide +kernel)
theorem find1 : Ev (fun k => scan_Find k (qA 1 2 7 0 1) [R1, R2]) [R1] := by
 have s := qA_small 1 2 7 0 1
 exact find_is (q := qA 1 2 7 0 1) (by decide) s.1 s.2 [R1, R2] [R1] (by decide) R_size (by decide +kernel) (by unfold Srt; decide +kernel) (by
  rw [show [R1, R2].filter (hitB 1 (qA 1 2 7 0 1)) = [R1] by decide +kernel]; exact SE.refl _)
theorem find2 : Ev (fun k => scan_Find k (qA 1 1 8 0 1) [R1, R2]) [] := by
 have s := qA_small 1 1 8 0 1
 exact find_is (q := qA 1 1 8 0 1) (by decide) s.1 s.2 [R1, R2] [] (by decide) R_size (by decide +kernel) (by unfold Srt; decide +kernel) (by
  rw [show [R1, R2].filter (hitB 1 (qA 1 1 8 0 1)) = [] by decide +kernel]; exact SE.refl _)
theorem find3 : Ev (fun k => scan_Find k (qA 0 0 0 0 0) [R1]) [] := by
 have s := qA_small 0 0 0 0 0
 obtain ⟨t, _, h, hE⟩ := Find_ev (d := 1) (q := qA 0 0 0 0 0) (by decide) (by decide) s.1 s.2 [R1] (by decide) (by decide)
 rw [h (by decide +kernel)] at hE
 exact hE
theorem all_ev : Ev (fun k => scan_All k (qA 0 0 0 0 1) [R1, R2]) [[R2], [R1]] := by
 unfold scan_All
 refine Ev.bind find0 ?_
 refine Ev.bind (b := ([[R2], [R1]], qA 1 1 8 0 1)) ?_ (Ev.now _)
 refine Ev.step (fun k => by rw [scan_All_l0]) ?_
 refine Ev.pos (by decide) (Ev.pos (by decide) (Ev.pos (by decide +kernel) ?_))
 rw [show IntKind.i64.wrap ((([R2] : List T31).length : Int) - 1) = 0 by decide +kernel]
 refine Ev.bind (f := fun k => scan_Find k (qA 1 2 7 0 1) [R1, R2]) find1 ?_
 refine Ev.step (fun k => by rw [scan_All_l0]) ?_
 refine Ev.pos (by decide) (Ev.pos (by decide) (Ev.pos (by decide +kernel) ?_))
 rw [show IntKind.i64.wrap ((([R1] : List T31).length : Int) - 1) = 0 by decide +kernel]
 refine Ev.bind (f := fun k => scan_Find k (qA 1 1 8 0 1) [R1, R2]) find2 ?_
 refine Ev.step (fun k => by rw [scan_All_l0]) ?_
 exact Ev.neg (by decide) (Ev.now _)
theorem awake_ev : Ev (fun k => grapevinelaw16_awake k) true := by
 unfold grapevinelaw16_awake
 have e1 : grapevinelaw16_rec 1 (⟨#[120, 32, 121]⟩ : ByteArray) = some R1 := by decide +kernel
 have e2 : grapevinelaw16_rec 2 (⟨#[120]⟩ : ByteArray) = some R2 := by decide +kernel
 have w1 : grapevinelaw16_word (⟨#[120]⟩ : ByteArray) 1 = some (qA 0 0 0 0 1) := rfl
 have w0 : grapevinelaw16_word (⟨#[120]⟩ : ByteArray) 0 = some (qA 0 0 0 0 0) := rfl
 rw [e1, e2, w1, w0]
 refine Ev.name fun t ht => ?_
 rw [ht]
 refine Ev.name fun t ht => ?_
 rw [ht]
 refine Ev.bind (b := [[R2], [R1]]) (Ev.name fun t ht => by rw [ht]; exact Ev.bind all_ev (Ev.now _)) ?_
 refine Ev.bind (b := true) ?_ (Ev.now _)
 refine Ev.name fun t ht => ?_
 rw [ht]
 refine Ev.bind find0 ?_
 refine Ev.bind (SameR_self [R2] (by decide)) (Ev.pos rfl ?_)
 refine Ev.pos rfl (Ev.pos (by decide) ?_)
 refine Ev.bind (f := fun k => grapevinelaw0_SameRecords k [R1] [R1]) (SameR_self [R1] (by decide)) (Ev.pos rfl ?_)
 refine Ev.name fun t ht => ?_
 rw [ht]
 exact Ev.bind find3 (Ev.now _)
end Go.Proofs.YtbphlohiealbeaaGreatDoor.Pure
