/- Records compared, great lists, and what every program answers that is one. -/
import Derived.Test.YtbphlohiealbeaaGreatDoorF0
import Derived.Test.YtbphlohiealbeaaGreatDoorF3
import Derived.Test.YtbphlohiealbeaaGreatDoorF4
import Derived.Test.YtbphlohiealbeaaGreatDoorPScan0
namespace Go.Proofs.YtbphlohiealbeaaGreatDoor.Pure
open Go Go.Gg Go.Gp Gf
set_option linter.unusedVariables false
set_option linter.unusedSimpArgs false
theorem SameR_self (a : List T31) (hl : a.length < 1000000) : Ev (fun k => grapevinelaw0_SameRecords k a a) true := by
 unfold grapevinelaw0_SameRecords; refine Ev.neg (by simp) ?_; have := Ev.count (F := fun k (_ : Unit) i => grapevinelaw0_SameRecords_l0 a a k i) (r := Sum.inr ()) (fun _ => ()) a.length (fun j hj r H => by
  refine Ev.step (fun k => by rw [grapevinelaw0_SameRecords_l0]) ?_; refine Ev.pos (by omega) (Ev.pos (by omega) (Ev.pos (by omega) (Ev.neg (by simp) ?_))); rw [step64 j (by omega)]; exact H) (by
  refine Ev.step (fun k => by rw [grapevinelaw0_SameRecords_l0]) ?_; exact Ev.neg (by omega) (Ev.now _))
 exact Ev.bind this (Ev.now _)
theorem GreatR_ev (l : List T31) (m : Int) (hm : 0 ≤ m ∧ m < 1000) : ∃ r, Ev (fun k => grapevinelaw0_GreatRecords k l m) r ∧ (r = false → (l.length : Int) ≤ m) := by
 unfold grapevinelaw0_GreatRecords; by_cases h : (l.length : Int) ≤ m
 case neg =>
  refine ⟨true, ?_, fun e => by cases e⟩; refine Ev.bind (b := Sum.inr ()) (Ev.step (fun k => by rw [grapevinelaw0_GreatRecords_l0]) ?_) ((Ev.now _).is (decide_eq_true (by omega))); refine Ev.bind (b := false) ?_ (Ev.neg Bool.false_ne_true (Ev.now _)); exact Ev.ite (fun _ => (Ev.now _).is (decide_eq_false h)) (fun _ => Ev.now _)
 obtain ⟨r, hr, hE⟩ := Ev.loop (F := fun k (s : Int) => grapevinelaw0_GreatRecords_l0 l m k s) (fun s n => 0 ≤ s ∧ s + n = l.length) (fun r => r = Sum.inl true ∨ r = Sum.inr ()) (fun s n ⟨h0, hn⟩ => by
  by_cases h1 : s < (l.length : Int)
  ·by_cases h2 : ((l.getD s.toNat z31).f4.size : Int) > 300
   ·refine .inl ⟨Sum.inl true, .inl rfl, ?_⟩; refine Ev.step (fun k => by rw [grapevinelaw0_GreatRecords_l0]) ?_; refine Ev.bind (b := true) (Ev.pos h1 ((Ev.now _).is (decide_eq_true h))) (Ev.pos rfl ?_); exact Ev.pos (by omega) (Ev.pos h2 (Ev.now _))
   ·refine .inr ⟨s + 1, n - 1, by omega, ⟨by omega, by omega⟩, fun r H => ?_⟩; refine Ev.step (fun k => by rw [grapevinelaw0_GreatRecords_l0]) ?_; refine Ev.bind (b := true) (Ev.pos h1 ((Ev.now _).is (decide_eq_true h))) (Ev.pos rfl ?_); refine Ev.pos (by omega) (Ev.neg h2 ?_); rw [i64w (by omega)]; exact H
  ·refine .inl ⟨Sum.inr (), .inr rfl, ?_⟩; refine Ev.step (fun k => by rw [grapevinelaw0_GreatRecords_l0]) ?_; exact Ev.bind (b := false) (Ev.neg h1 (Ev.now _)) (Ev.neg Bool.false_ne_true (Ev.now _))) 0 l.length ⟨by omega, by omega⟩
 rcases hr with rfl | rfl
 ·exact ⟨true, Ev.bind hE (Ev.now _), fun e => by cases e⟩
 ·exact ⟨false, Ev.bind hE ((Ev.now _).is (decide_eq_false (by omega))), fun _ => h⟩
theorem find_is {q : T33} (h9 : q.f9.size ≤ 9223372036854775807) (hs : SmallN 1 (askOf q)) (hc : cntN 1 (askOf q) ≤ 1000) (l t : List T31) (hl : l.length ≤ 1000000) (hr : ∀ r ∈ l, r.f4.size ≤ 9223372036854775807)
  (hm : mayQ 1 q = true) (hsr : Srt ltr t) (hse : SE ltr (l.filter (hitB 1 q)) t) : Ev (fun k => scan_Find k q l) (t.take q.f4.toNat) := by
 obtain ⟨r, h1, _, hE⟩ := Find_ev (d := 1) (by decide) h9 hs hc l hl hr; obtain ⟨_, _, u, hu, su, rfl⟩ := h1 hm; have : u = t := Srt.uniq ltr_swo hu hsr (su.symm.trans hse); rw [← this]; exact hE
def R1 : T31 := ⟨1, 1, 8, 0, ⟨#[120, 32, 121]⟩⟩
def R2 : T31 := ⟨1, 2, 7, 0, ⟨#[120]⟩⟩
def qA (o s w c : Int) (m : Int) : T33 := ⟨1, 0, [⟨#[120]⟩], [], m, o, s, w, c, ⟨#[]⟩⟩
theorem qA_small (o s w c m : Int) : SmallN 1 (askOf (qA o s w c m)) ∧ cntN 1 (askOf (qA o s w c m)) ≤ 1000 := small_leaf (x := askOf (qA o s w c m)) (by show 1 ≤ 300; omega) (by intro w hw; have hw : w ∈ [(⟨#[120]⟩ : ByteArray)] := hw; simp at hw; subst hw; decide) rfl
theorem R_size : ∀ r ∈ [R1, R2], r.f4.size ≤ 9223372036854775807 := by decide
theorem find0 : Ev (fun k => scan_Find k (qA 0 0 0 0 1) [R1, R2]) [R2] := by
 have s := qA_small 0 0 0 0 1; exact find_is (q := qA 0 0 0 0 1) (by decide) s.1 s.2 [R1, R2] [R2, R1] (by decide) R_size (by decide +kernel) (by unfold Srt; decide +kernel) (by
  rw [show [R1, R2].filter (hitB 1 (qA 0 0 0 0 1)) = [R1] ++ [R2] by decide +kernel]; exact SE.swap ltr_swo fun x hx y hy => by
   simp only [List.mem_singleton] at hx hy; subst hx; subst hy; decide +kernel)
theorem find1 : Ev (fun k => scan_Find k (qA 1 2 7 0 1) [R1, R2]) [R1] := by
 have s := qA_small 1 2 7 0 1; exact find_is (q := qA 1 2 7 0 1) (by decide) s.1 s.2 [R1, R2] [R1] (by decide) R_size (by decide +kernel) (by unfold Srt; decide +kernel) (by
  rw [show [R1, R2].filter (hitB 1 (qA 1 2 7 0 1)) = [R1] by decide +kernel]; exact SE.refl _)
theorem find2 : Ev (fun k => scan_Find k (qA 1 1 8 0 1) [R1, R2]) [] := by
 have s := qA_small 1 1 8 0 1; exact find_is (q := qA 1 1 8 0 1) (by decide) s.1 s.2 [R1, R2] [] (by decide) R_size (by decide +kernel) (by unfold Srt; decide +kernel) (by
  rw [show [R1, R2].filter (hitB 1 (qA 1 1 8 0 1)) = [] by decide +kernel]; exact SE.refl _)
theorem find3 : Ev (fun k => scan_Find k (qA 0 0 0 0 0) [R1]) [] := by
 have s := qA_small 0 0 0 0 0; obtain ⟨t, _, h, hE⟩ := Find_ev (d := 1) (q := qA 0 0 0 0 0) (by decide) (by decide) s.1 s.2 [R1] (by decide) (by decide); rw [h (by decide +kernel)] at hE; exact hE
theorem all_ev : Ev (fun k => scan_All k (qA 0 0 0 0 1) [R1, R2]) [[R2], [R1]] := by
 unfold scan_All; refine Ev.bind find0 ?_; refine Ev.bind (b := ([[R2], [R1]], qA 1 1 8 0 1)) ?_ (Ev.now _); refine Ev.step (fun k => by rw [scan_All_l0]) ?_; refine Ev.pos (by decide) (Ev.pos (by decide) (Ev.pos (by decide +kernel) ?_)); rw [show IntKind.i64.wrap ((([R2] : List T31).length : Int) - 1) = 0 by decide +kernel]; refine Ev.bind (f := fun k => scan_Find k (qA 1 2 7 0 1) [R1, R2]) find1 ?_; refine Ev.step (fun k => by rw [scan_All_l0]) ?_; refine Ev.pos (by decide) (Ev.pos (by decide) (Ev.pos (by decide +kernel) ?_)); rw [show IntKind.i64.wrap ((([R1] : List T31).length : Int) - 1) = 0 by decide +kernel]; refine Ev.bind (f := fun k => scan_Find k (qA 1 1 8 0 1) [R1, R2]) find2 ?_; refine Ev.step (fun k => by rw [scan_All_l0]) ?_; exact Ev.neg (by decide) (Ev.now _)
theorem awake_ev : Ev (fun k => grapevinelaw16_awake k) true := by
 unfold grapevinelaw16_awake; have e1 : grapevinelaw16_rec 1 (⟨#[120, 32, 121]⟩ : ByteArray) = some R1 := by decide +kernel
 have e2 : grapevinelaw16_rec 2 (⟨#[120]⟩ : ByteArray) = some R2 := by decide +kernel
 have w1 : grapevinelaw16_word (⟨#[120]⟩ : ByteArray) 1 = some (qA 0 0 0 0 1) := rfl; have w0 : grapevinelaw16_word (⟨#[120]⟩ : ByteArray) 0 = some (qA 0 0 0 0 0) := rfl; rw [e1, e2, w1, w0]; refine Ev.name fun t ht => ?_
 rw [ht]; refine Ev.name fun t ht => ?_
 rw [ht]; refine Ev.bind (b := [[R2], [R1]]) (Ev.name fun t ht => by rw [ht]; exact Ev.bind all_ev (Ev.now _)) ?_; refine Ev.bind (b := true) ?_ (Ev.now _); refine Ev.name fun t ht => ?_
 rw [ht]; refine Ev.bind find0 ?_; refine Ev.bind (SameR_self [R2] (by decide)) (Ev.pos rfl ?_); refine Ev.pos rfl (Ev.pos (by decide) ?_); refine Ev.bind (f := fun k => grapevinelaw0_SameRecords k [R1] [R1]) (SameR_self [R1] (by decide)) (Ev.pos rfl ?_); refine Ev.name fun t ht => ?_
 rw [ht]; exact Ev.bind find3 (Ev.now _)
end Go.Proofs.YtbphlohiealbeaaGreatDoor.Pure
namespace Go.Gp
set_option linter.unusedVariables false
theorem eqv_trans {α : Type} {lt : α → α → Bool} (hw : SWO lt) {x a b : α} (h1 : eqv lt x a = true) (h2 : eqv lt x b = true) : eqv lt a b = true := by
 rw [eqv_iff] at *; exact ⟨hw.ntr h2.1 h1.2, hw.ntr h1.1 h2.2⟩
theorem SE.perm {α : Type} {lt : α → α → Bool} (hw : SWO lt) {xs ys : List α} (hp : xs.Perm ys) (hk : xs.Pairwise fun a b => eqv lt a b = false) : SE lt xs ys := fun x => by
 have h1 := hp.filter (eqv lt x); have h2 := hk.filter (eqv lt x); have h3 : ∀ a ∈ xs.filter (eqv lt x), eqv lt x a = true := fun a h => (List.mem_filter.1 h).2
 match h : xs.filter (eqv lt x), h1, h2, h3 with
 | [], h1, _, _ => exact (List.nil_perm.1 h1).symm
 | [a], h1, _, _ => exact List.singleton_perm.1 h1
 | a :: b :: l, _, h2, h3 =>
  have := (List.pairwise_cons.1 h2).1 b (by simp); rw [eqv_trans hw (h3 a (by simp)) (h3 b (by simp))] at this
  cases this
theorem SE.pair {α : Type} {lt : α → α → Bool} (hw : SWO lt) {xs ys : List α} (hp : SE lt xs ys) (hk : xs.Pairwise fun a b => eqv lt a b = false) (hs : Srt lt ys) : ys.Pairwise fun a b => lt a b = true := by
 have key : ∀ (us : List α), us.Sublist ys → Srt lt us → us.Pairwise fun a b => lt a b = true := fun us => by
  induction us with
  | nil => intro _ _; exact List.Pairwise.nil
  | cons a us ih =>
   intro h1 h2; obtain ⟨h3, h4⟩ := List.pairwise_cons.1 h2; refine List.pairwise_cons.2 ⟨fun b hb => ?_, ih ((List.sublist_cons_self a us).trans h1) h4⟩
   cases e : lt a b with
   | true => rfl
   | false =>
    have e1 : eqv lt a b = true := eqv_iff.2 ⟨e, h3 b hb⟩; have h5 := (h1.filter (eqv lt a)).length_le; rw [← hp a] at h5; have h6 : 2 ≤ ((a :: us).filter (eqv lt a)).length := by
     rw [List.filter_cons_of_pos (hw.eqv_refl a)]; have : b ∈ us.filter (eqv lt a) := List.mem_filter.2 ⟨hb, e1⟩; have := List.length_pos_of_mem this; simp only [List.length_cons]; omega
    have h7 := hk.filter (eqv lt a); have h8 : ∀ c ∈ xs.filter (eqv lt a), eqv lt a c = true := fun c h => (List.mem_filter.1 h).2
    match h : xs.filter (eqv lt a), h7, h8 with
    | [], _, _ => rw [h] at h5; simp only [List.length_nil] at h5; omega
    | [c], _, _ => rw [h] at h5; simp only [List.length_singleton] at h5; omega
    | c :: d :: l, h7, h8 =>
     have := (List.pairwise_cons.1 h7).1 d (by simp); rw [eqv_trans hw (h8 c (by simp)) (h8 d (by simp))] at this
     cases this
 exact key ys (List.Sublist.refl _) hs
theorem behind_one {α : Type} {lt : α → α → Bool} (hw : SWO lt) {us vs : List α} {x : α} (h : (us ++ x :: vs).Pairwise fun a b => lt a b = true) : (us ++ x :: vs).filter (lt x) = vs := by
 obtain ⟨_, h2, h3⟩ := List.pairwise_append.1 h; obtain ⟨h4, _⟩ := List.pairwise_cons.1 h2; rw [List.filter_append, filter_none (fun y hy => hw.asym (h3 y hy x (by simp))), List.nil_append, List.filter_cons_of_neg (by rw [hw.irr]; simp), List.filter_eq_self.2 h4]
end Go.Gp
namespace Go.Proofs.YtbphlohiealbeaaGreatDoor.Pure
open Go Go.Gg Go.Gp Gf
set_option linter.unusedVariables false
set_option linter.unusedSimpArgs false
theorem eqv_same {a b : T31} (h : eqv ltr a b = true) : (⟨a.f0, a.f1⟩ : T27) = ⟨b.f0, b.f1⟩ ∧ (⟨a.f2, a.f3⟩ : T29) = ⟨b.f2, b.f3⟩ := by
 rw [eqv_iff] at h; simp only [ltr, decide_eq_false_iff_not] at h; simp only [T27.mk.injEq, T29.mk.injEq]; omega
theorem same_eqv {a b : T31} (h1 : (⟨a.f0, a.f1⟩ : T27) = ⟨b.f0, b.f1⟩) (h2 : (⟨a.f2, a.f3⟩ : T29) = ⟨b.f2, b.f3⟩) : eqv ltr a b = true := by
 simp only [T27.mk.injEq, T29.mk.injEq] at h1 h2; rw [eqv_iff]; simp only [ltr, decide_eq_false_iff_not]; omega
theorem eqv_comm (a b : T31) : eqv ltr a b = eqv ltr b a := by unfold eqv; exact Bool.and_comm _ _
theorem keyed_l1_ev (l : List T31) (hl : l.length ≤ 1000) (i : Nat) (hi : i < l.length) : ∃ r, (r = Sum.inl false ∨ r = Sum.inr () ∧ ∀ j < i, eqv ltr (l.getD i z31) (l.getD j z31) = false) ∧ Ev (fun k => grapevinelaw16_keyed_l1 l (i : Int) k 0) r :=
 Ev.loop (F := fun k (s : Int) => grapevinelaw16_keyed_l1 l (i : Int) k s) (fun s n => 0 ≤ s ∧ s + n = i ∧ ∀ j < s.toNat, eqv ltr (l.getD i z31) (l.getD j z31) = false) _ (fun s n ⟨h0, hn, hall⟩ => by
  by_cases h1 : s < (i : Int)
  ·by_cases hb : (⟨(l.getD i z31).f0, (l.getD i z31).f1⟩ : T27) = ⟨(l.getD s.toNat z31).f0, (l.getD s.toNat z31).f1⟩ ∧ (⟨(l.getD i z31).f2, (l.getD i z31).f3⟩ : T29) = ⟨(l.getD s.toNat z31).f2, (l.getD s.toNat z31).f3⟩
   ·refine .inl ⟨Sum.inl false, .inl rfl, ?_⟩; refine Ev.step (fun k => by rw [grapevinelaw16_keyed_l1]) ?_; refine Ev.pos h1 ?_; refine Ev.bind (b := true) (Ev.pos (by omega) (Ev.pos (by omega) (Ev.pos ?_ (Ev.pos (by omega) (Ev.pos (by omega) ((Ev.now _).is ?_)))))) (Ev.pos rfl (Ev.now _))
    ·rw [Int.toNat_natCast]; exact hb.1
    ·rw [Int.toNat_natCast]; exact decide_eq_true hb.2
   ·refine .inr ⟨s + 1, n - 1, by omega, ⟨by omega, by omega, fun j hj => ?_⟩, fun r H => ?_⟩
    ·by_cases e : j = s.toNat
     ·cases hc : eqv ltr (l.getD i z31) (l.getD j z31) with
      | false => rfl
      | true => rw [e] at hc; exact absurd (eqv_same hc) hb
     ·exact hall j (by omega)
    ·refine Ev.step (fun k => by rw [grapevinelaw16_keyed_l1]) ?_; refine Ev.pos h1 ?_; refine Ev.bind (b := false) (Ev.pos (by omega) (Ev.pos (by omega) ?_)) (Ev.neg Bool.false_ne_true ?_)
     ·rw [Int.toNat_natCast]; refine Ev.ite (fun hk => Ev.pos (by omega) (Ev.pos (by omega) ((Ev.now _).is (decide_eq_false fun hs => hb ⟨hk, hs⟩)))) (fun _ => Ev.now _)
     ·rw [i64w (by omega)]; exact H
  ·refine .inl ⟨Sum.inr (), .inr ⟨rfl, fun j hj => hall j (by omega)⟩, ?_⟩; refine Ev.step (fun k => by rw [grapevinelaw16_keyed_l1]) ?_; exact Ev.neg h1 (Ev.now _)) 0 i ⟨by omega, by omega, fun j hj => absurd hj (by simp)⟩
theorem keyed_ev (l : List T31) (hl : l.length ≤ 1000) : ∃ r, Ev (fun k => grapevinelaw16_keyed k l) r ∧ (r = true → l.Pairwise fun a b => eqv ltr a b = false) := by
 obtain ⟨r, hr, hE⟩ := Ev.loop (F := fun k (s : Int) => grapevinelaw16_keyed_l0 l k s) (fun s n => 0 ≤ s ∧ s + n = l.length ∧ ∀ i < s.toNat, ∀ j < i, eqv ltr (l.getD i z31) (l.getD j z31) = false) (fun r => r = Sum.inl false ∨ r = Sum.inr () ∧ ∀ i < l.length, ∀ j < i, eqv ltr (l.getD i z31) (l.getD j z31) = false) (fun s n ⟨h0, hn, hall⟩ => by
  by_cases h1 : s < (l.length : Int)
  ·obtain ⟨i, rfl⟩ : ∃ i : Nat, s = i := ⟨s.toNat, by omega⟩; obtain ⟨r, hr, hE⟩ := keyed_l1_ev l hl i (by omega); rcases hr with rfl | ⟨rfl, hi⟩
   ·refine .inl ⟨Sum.inl false, .inl rfl, ?_⟩; refine Ev.step (fun k => by rw [grapevinelaw16_keyed_l0]) ?_; exact Ev.pos h1 (Ev.bind hE (Ev.now _))
   ·refine .inr ⟨(i : Int) + 1, n - 1, by omega, ⟨by omega, by omega, fun a ha => ?_⟩, fun r H => ?_⟩
    ·by_cases e : a = i
     ·subst e; exact hi
     ·exact hall a (by omega)
    ·refine Ev.step (fun k => by rw [grapevinelaw16_keyed_l0]) ?_; refine Ev.pos h1 (Ev.bind hE ?_); show Ev (fun k => grapevinelaw16_keyed_l0 l k (IntKind.i64.wrap ((i : Int) + 1))) r; rw [i64w (by omega)]; exact H
  ·refine .inl ⟨Sum.inr (), .inr ⟨rfl, fun i hi => hall i (by omega)⟩, ?_⟩; refine Ev.step (fun k => by rw [grapevinelaw16_keyed_l0]) ?_; exact Ev.neg h1 (Ev.now _)) 0 l.length ⟨by omega, by omega, fun i hi => absurd hi (by simp)⟩
 unfold grapevinelaw16_keyed; rcases hr with rfl | ⟨rfl, hi⟩
 ·exact ⟨false, Ev.bind hE (Ev.now _), fun e => by cases e⟩
 ·refine ⟨true, Ev.bind hE (Ev.now _), fun _ => List.pairwise_iff_getElem.2 fun i j hi' hj' hij => ?_⟩; have := hi j hj' i hij; rw [getD_eq l z31 hj', getD_eq l z31 hi'] at this; rw [eqv_comm]; exact this
def one (q : T33) : T33 := ⟨q.f0, q.f1, q.f2, q.f3, 1, 0, 0, 0, 0, ⟨#[]⟩⟩
end Go.Proofs.YtbphlohiealbeaaGreatDoor.Pure
