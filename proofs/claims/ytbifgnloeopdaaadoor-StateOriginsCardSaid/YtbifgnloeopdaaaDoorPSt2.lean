/- States in plain words: is a state whole; copies; what every program answers that is one. -/
import Derived.Test.YtbifgnloeopdaaaDoorF0
import Derived.Test.YtbifgnloeopdaaaDoorF1
import Derived.Test.YtbifgnloeopdaaaDoorPSt1
namespace Go.Proofs.YtbifgnloeopdaaaDoor.Pure
open Go Go.Gg Go.Gp Gf
set_option linter.unusedVariables false
set_option linter.unusedSimpArgs false
theorem getD_some {α : Type} {l : List α} {d x : α} {i : Nat} (h : l[i]? = some x) : l.getD i d = x ∧ i < l.length := by
 obtain ⟨hi, e⟩ := List.getElem?_eq_some_iff.1 h; exact ⟨by rw [getD_eq l d hi, e], hi⟩
theorem Copy_eq {n : Nat} {s : T46} (h : Good n s) (hn : n ≤ 8) : state_State_Copy s = some s := by
 unfold state_State_Copy maps_Clone; rw [V_eq h hn, W_eq h hn]; rfl
theorem Equal_self (a : List Int) (hl : a.length < 1000) : Ev (fun k => slices_Equal k a a) true := by
 unfold slices_Equal; refine Ev.neg (by simp) ?_; have := Ev.count (F := fun k (_ : Unit) i => slices_Equal_l0 a a k i) (r := Sum.inr ()) (fun _ => ()) a.length (fun j hj r H => by
  refine Ev.step (fun k => by rw [slices_Equal_l0]) ?_; refine Ev.pos (by omega) (Ev.pos (by omega) (Ev.pos (by omega) (Ev.neg (by simp) ?_))); rw [step64 j (by omega)]; exact H) (by
  refine Ev.step (fun k => by rw [slices_Equal_l0]) ?_; exact Ev.neg (by omega) (Ev.now _))
 exact Ev.bind this (Ev.now _)
theorem maps_self {f : T29 → Option T33} {ks : List T29} (hf : ∀ a v, f a = some v → a ∈ ks) : Ev (fun k => maps_Equal k f f) true := by
 unfold maps_Equal; refine Ev.neg (by simp) ?_; refine Ev.bind (b := Sum.inr ()) ?_ (Ev.now _); refine Ev.range (F := fun k (_ : Unit) seen => maps_Equal_l0 f f k seen) ks (fun _ _ => True) ?_ () [] trivial; intro _ seen _ ih; refine Ev.step (fun k => by rw [maps_Equal_l0]) ?_; refine Ev.pickF (ks := ks) hf (fun _ => Ev.now _) (fun a v hv hn => ?_); refine Ev.bind (b := false) (Ev.neg (by simp [hv]) ((Ev.now _).is (by simp [hv]))) ?_; exact Ev.neg Bool.false_ne_true (ih () a (hf a v hv) hn trivial)
theorem Same_self {n : Nat} {s : T46} (h : Good n s) (hn : n ≤ 8) : Ev (fun k => state_Same k s s) true := by
 unfold state_Same; have hl := h.v.1; have hl2 := h.w.1; refine Ev.bind (b := true) ?_ (Ev.now _); refine Ev.bind (Equal_self _ (by omega)) (Ev.pos rfl ?_); refine Ev.bind (Equal_self _ (by omega)) (Ev.pos rfl ?_); exact Ev.bind (maps_self h.supp) (Ev.now _)
def rk (o q : Int) : T33 := ⟨o, q, 0, 0, ⟨#[97]⟩⟩
theorem rec_eq (o q : Int) : grapevinelaw19_rec o q = some (rk o q) := rfl
theorem rk_size (o q : Int) : (rk o q).f4.size ≤ 9223372036854775807 := by show (1 : Nat) ≤ _; omega
theorem rk_may {o q : Int} : recB (rk o q) = decide ((0 ≤ o ∧ o < 8) ∧ 1 ≤ q ∧ q ≤ 1023) := by
 unfold recB rk; rw [show Lib.validD (⟨#[97]⟩ : ByteArray).data.toList = true by decide +kernel]; rw [Bool.eq_iff_iff]; simp only [Bool.and_eq_true, decide_eq_true_eq]; constructor
 ·intro h; omega
 ·intro h; exact ⟨by omega, by show (1 : Nat) ≤ 120; omega, trivial⟩
theorem awake_ev : Ev (fun k => grapevinelaw19_awake k) true := by
 unfold grapevinelaw19_awake; rw [show (2 : Int) = ((2 : Nat) : Int) from rfl, New_some (by omega) (by omega), New_none (by omega), rec_eq, rec_eq]; have g0 := Good.new 2; have e0 : (newS 2).f0 = [0, 0] := rfl; have e1 : (newS 2).f1 = [0, 0] := rfl; have m1 : recB (rk 0 1) = true := by rw [rk_may]; rfl
 have m3 : recB (rk 0 3) = true := by rw [rk_may]; rfl
 obtain ⟨s1, hs1⟩ : ∃ s, s = acceptS (newS 2) (rk 0 1) := ⟨_, rfl⟩; have g1 : Good 2 s1 := by rw [hs1]; exact g0.accept (r := rk 0 1) ⟨by decide, by decide⟩ (by rw [e0]; rfl) (by decide)
 have f0 : s1.f0 = [1, 0] := by rw [hs1]; rfl
 have f1 : s1.f1 = [0, 0] := by rw [hs1]; rfl
 have A1 : state_State_Accept (newS 2) (rk 0 1) = some (0, s1) := by
  rw [Accept_eq g0 (rk_size _ _), m1, e0, hs1]; rfl
 have A3 : state_State_Accept s1 (rk 0 3) = some (7, s1) := by
  rw [Accept_eq g1 (rk_size _ _), m3, f0]; rfl
 have A2 : state_State_Accept s1 (rk 0 1) = some (6, s1) := by
  rw [Accept_eq g1 (rk_size _ _), m1, f0]; rfl
 refine Ev.name fun t ht => ?_
 subst ht; simp only [Option.elim_some]; refine Ev.name fun t ht => ?_
 subst ht; rw [A1]; refine Ev.name fun t ht => ?_
 subst ht; refine Ev.name fun t ht => ?_
 subst ht; rw [show ((0 : Int), s1).2 = s1 from rfl, A3]; refine Ev.name fun t ht => ?_
 subst ht; refine Ev.name fun t ht => ?_
 subst ht; rw [show ((7 : Int), s1).2 = s1 from rfl, A2]; refine Ev.name fun t ht => ?_
 subst ht; rw [show ((6 : Int), s1).2 = s1 from rfl]; refine Ev.bind (Records_ev g1 (by omega)) ?_; have hR := Retire_ev g1 (by omega) (by omega) 0 9; rw [if_pos (by omega)] at hR; refine Ev.bind hR ?_; have hx : rtW s1 0 9 = [1, 0] := by unfold rtW at0; rw [f0, f1]; rfl
 obtain ⟨s2, hs2⟩ : ∃ s, s = raiseS s1 (rtW s1 0 9) := ⟨_, rfl⟩; rw [← hs2]; have g2 : Good 2 s2 := by rw [hs2]; exact g1.raise (rtW_vec g1 (by omega) (by omega))
 have k0 : s2.f0 = [1, 0] := by rw [hs2]; unfold raiseS; rw [hx, f0, f1]; rfl
 have k1 : s2.f1 = [1, 0] := by rw [hs2]; unfold raiseS; rw [hx, f1]; rfl
 have l1 : (recs 2 s1 s1.f1).length = 1 := by unfold recs; rw [List.length_map, f0, f1]; rfl
 have l2 : (recs 2 s2 s2.f1).length = 0 := by unfold recs; rw [List.length_map, k0, k1]; rfl
 refine Ev.bind (b := true) ?_ (Ev.now _); refine Ev.pos rfl (Ev.pos rfl (Ev.pos rfl (Ev.pos (by rw [l1]; rfl) (Ev.pos rfl ?_)))); rw [show ((0 : Int), s2).2 = s2 from rfl, V_eq g2 (by omega), W_eq g2 (by omega), Copy_eq g2 (by omega)]; refine Ev.name fun t ht => ?_
 subst ht; refine Ev.bind (SameInts_ev _ _ (by rw [k0]; decide)) (Ev.pos (by rw [k0]; rfl) ?_); refine Ev.name fun t ht => ?_
 subst ht; refine Ev.bind (SameInts_ev _ _ (by rw [k1]; decide)) (Ev.pos (by rw [k1]; rfl) ?_); refine Ev.bind (Records_ev g2 (by omega)) (Ev.pos (by rw [l2]; rfl) ?_); refine Ev.name fun t ht => ?_
 subst ht; simp only [Option.elim_none]; refine Ev.name fun t ht => ?_
 subst ht; exact Ev.bind (Same_self g2 (by omega)) (Ev.now _)
theorem great_ev (l : List T36) {m : Int} (hm : 0 ≤ m ∧ m < 1000) : ∃ g, Ev (fun k => grapevinelaw19_great k l m) g ∧ (g = false → (l.length : Int) ≤ m ∧ ∀ i, i < l.length → ((l.getD i z36).f7.size : Int) ≤ 300 ∧ ((l.getD i z36).f8.length : Int) ≤ 20) := by
 by_cases h : (l.length : Int) ≤ m
 case neg =>
  refine ⟨true, ?_, fun e => by cases e⟩; unfold grapevinelaw19_great; refine Ev.bind (b := Sum.inr ()) (Ev.step (fun k => by rw [grapevinelaw19_great_l0]) ?_) ((Ev.now _).is (decide_eq_true (by omega))); refine Ev.bind (b := false) ?_ (Ev.neg Bool.false_ne_true (Ev.now _)); exact Ev.ite (fun _ => (Ev.now _).is (decide_eq_false h)) (fun _ => Ev.now _)
 unfold grapevinelaw19_great; obtain ⟨r, hr, hE⟩ := Ev.loop (F := fun k (s : Int) => grapevinelaw19_great_l0 l m k s) (fun s n => 0 ≤ s ∧ s + n = l.length ∧ ∀ i : Nat, (i : Int) < s → ((l.getD i z36).f7.size : Int) ≤ 300 ∧ ((l.getD i z36).f8.length : Int) ≤ 20) (fun r => r = Sum.inl true ∨ r = Sum.inr () ∧ ∀ i, i < l.length → ((l.getD i z36).f7.size : Int) ≤ 300 ∧ ((l.getD i z36).f8.length : Int) ≤ 20) (fun s n ⟨h0, hn, hall⟩ => by
  by_cases h1 : s < (l.length : Int)
  ·by_cases hb : ((l.getD s.toNat z36).f7.size : Int) ≤ 300 ∧ ((l.getD s.toNat z36).f8.length : Int) ≤ 20
   ·refine .inr ⟨s + 1, n - 1, by omega, ⟨by omega, by omega, fun i hi => ?_⟩, fun r H => ?_⟩
    ·by_cases e : (i : Int) = s
     ·rw [show i = s.toNat by omega]; exact hb
     ·exact hall i (by omega)
    ·refine Ev.step (fun k => by rw [grapevinelaw19_great_l0]) ?_; refine Ev.bind (b := true) (Ev.pos h1 ((Ev.now _).is (decide_eq_true h))) (Ev.pos rfl ?_); refine Ev.bind (b := false) (Ev.pos (by omega) (Ev.neg (by omega) (Ev.pos (by omega) ((Ev.now _).is (decide_eq_false (by omega)))))) ?_; refine Ev.neg Bool.false_ne_true ?_; rw [i64w (by omega)]; exact H
   ·refine .inl ⟨Sum.inl true, .inl rfl, ?_⟩; refine Ev.step (fun k => by rw [grapevinelaw19_great_l0]) ?_; refine Ev.bind (b := true) (Ev.pos h1 ((Ev.now _).is (decide_eq_true h))) (Ev.pos rfl ?_); refine Ev.bind (b := true) (Ev.pos (by omega) (Ev.ite (fun _ => Ev.now _) (fun _ => Ev.pos (by omega) ((Ev.now _).is (decide_eq_true (by omega)))))) ?_; exact Ev.pos rfl (Ev.now _)
  ·refine .inl ⟨Sum.inr (), .inr ⟨rfl, fun i hi => hall i (by omega)⟩, ?_⟩; refine Ev.step (fun k => by rw [grapevinelaw19_great_l0]) ?_; exact Ev.bind (b := false) (Ev.neg h1 (Ev.now _)) (Ev.neg Bool.false_ne_true (Ev.now _))) 0 l.length ⟨by omega, by omega, fun i hi => by omega⟩
 rcases hr with rfl | ⟨rfl, hw⟩
 ·exact ⟨true, Ev.bind hE (Ev.now _), fun e => by cases e⟩
 ·exact ⟨false, Ev.bind hE ((Ev.now _).is (decide_eq_false (by omega))), fun _ => ⟨h, hw⟩⟩
end Go.Proofs.YtbifgnloeopdaaaDoor.Pure
