
import Derived.Test.YtmgkpphbehamcaaGreatDoorPWr1
namespace Go.Proofs.YtmgkpphbehamcaaGreatDoor.Pure
open Go Go.Gg Go.Gp Gf
set_option linter.unusedVariables false
set_option linter.unusedSimpArgs false
def aftT (q : T34) : List UInt8 := if q.f6 > 0 then [32, 97, 102, 116, 101, 114, 58] ++ Lib.join [Lib.itoa q.f7, Lib.itoa q.f8, Lib.itoa q.f5, Lib.itoa q.f6] [46] else []
def LIM : List UInt8 := [32, 108, 105, 109, 105, 116, 58]
def writeL (d : Nat) (q : T34) : List UInt8 := wrN d (askOf q) ++ LIM ++ Lib.itoa q.f4 ++ aftT q
def writeQ (d : Nat) (q : T34) : ByteArray × Int := if mayQB d q = true ∧ (writeL d q).length ≤ 200 then (ba (writeL d q), 0) else (⟨#[]⟩, 2)
theorem aft_range {q : T34} (h : aftB q = true) : (0 ≤ q.f5 ∧ q.f5 < 8) ∧ (0 ≤ q.f6 ∧ q.f6 ≤ 1023) ∧ (0 ≤ q.f7 ∧ q.f7 ≤ 1099511627776) ∧ (0 ≤ q.f8 ∧ q.f8 ≤ 65535) := by
 unfold aftB at h; rw [Bool.or_eq_true] at h; rcases h with h | h
 ·have := of_decide_eq_true h; unfold aft at this; injection this with a b c d e
  omega
 ·rw [Bool.and_eq_true] at h; obtain ⟨_, h⟩ := h; unfold recB aft at h; rw [Bool.and_eq_true] at h; have := of_decide_eq_true h.1
  dsimp only at this
  omega
theorem mayQ_parts {d : Nat} {q : T34} (h : mayQB d q = true) : mayB d (askOf q) = true ∧ (1 ≤ q.f4 ∧ q.f4 ≤ 50) ∧ aftB q = true := by
 unfold mayQB at h; rw [Bool.and_eq_true, Bool.and_eq_true] at h; exact ⟨h.1, of_decide_eq_true h.2.1, h.2.2⟩
theorem may_good {d : Nat} {x : T26} (h : mayB d x = true) : goodN d x = true := by
 unfold mayB at h; rw [Bool.and_eq_true, Bool.and_eq_true] at h; exact h.2.2
theorem Write_loop {v24 : List Int} {v27 : Int} (a b c e : Int) (hv : v24 = [a, b, c, e]) (h7 : v27 = 4) (ha : -9223372036854775808 ≤ a ∧ a ≤ 9223372036854775807) (hb : -9223372036854775808 ≤ b ∧ b ≤ 9223372036854775807) (hc : -9223372036854775808 ≤ c ∧ c ≤ 9223372036854775807) (he : -9223372036854775808 ≤ e ∧ e ≤ 9223372036854775807) :
  Ev (fun k => ask_Write_l0 v24 v27 k ([] : List ByteArray) 0) ([Lib.itoa a, Lib.itoa b, Lib.itoa c, Lib.itoa e].map ba) := by
 subst hv; subst h7; have hl : (([a, b, c, e] : List Int).length : Int) = 4 := rfl; refine Ev.step (fun k => by rw [ask_Write_l0]) (Ev.pos (by decide) (Ev.pos (by rw [hl]; decide) ?_)); rw [show ([a, b, c, e] : List Int).getD (0 : Int).toNat 0 = a from rfl, itoa_tell a ha]; refine Ev.bind (Ev.now _) (Ev.pos (by simp) ?_); rw [i64w (by omega), show (0 : Int) + 1 = 1 from rfl]; refine Ev.step (fun k => by rw [ask_Write_l0]) (Ev.pos (by decide) (Ev.pos (by rw [hl]; decide) ?_)); rw [show ([a, b, c, e] : List Int).getD (1 : Int).toNat 0 = b from rfl, itoa_tell b hb]; refine Ev.bind (Ev.now _) (Ev.pos (by simp) ?_); rw [i64w (by omega), show (1 : Int) + 1 = 2 from rfl]; refine Ev.step (fun k => by rw [ask_Write_l0]) (Ev.pos (by decide) (Ev.pos (by rw [hl]; decide) ?_)); rw [show ([a, b, c, e] : List Int).getD (2 : Int).toNat 0 = c from rfl, itoa_tell c hc]; refine Ev.bind (Ev.now _) (Ev.pos (by simp) ?_); rw [i64w (by omega), show (2 : Int) + 1 = 3 from rfl]; refine Ev.step (fun k => by rw [ask_Write_l0]) (Ev.pos (by decide) (Ev.pos (by rw [hl]; decide) ?_)); rw [show ([a, b, c, e] : List Int).getD (3 : Int).toNat 0 = e from rfl, itoa_tell e he]; refine Ev.bind (Ev.now _) (Ev.pos (by simp) ?_); rw [i64w (by omega), show (3 : Int) + 1 = 4 from rfl]; exact Ev.step (g := fun _ => some ([Lib.itoa a, Lib.itoa b, Lib.itoa c, Lib.itoa e].map ba)) (fun k => by rw [ask_Write_l0, if_neg (by decide)]; rfl) (Ev.now _)
theorem Write_ev {d : Nat} (hd : d < 1000) {q : T34} (h : SmallN d (askOf q)) (hc : cntN d (askOf q) ≤ 1000) : Ev (fun k => ask_Write k q) (writeQ d q) := by
 unfold ask_Write writeQ; refine Ev.bind (mayQuery_ev hd h hc) ?_; by_cases hm : mayQB d q = true
 case neg =>
  refine Ev.pos (by simpa using hm) ((Ev.now _).is ?_); rw [if_neg (fun e => hm e.1)]
 refine Ev.neg (by simp [hm]) ?_; obtain ⟨m1, m2, m3⟩ := mayQ_parts hm; have hr := aft_range m3; have hw := wrN_len d _ h (may_good m1); have h4 := itoa_len q.f4 (by omega); have h5 := itoa_len q.f5 (by omega); have h6 := itoa_len q.f6 (by omega); have h7 := itoa_len q.f7 (by omega); have h8 := itoa_len q.f8 (by omega); refine Ev.bind (write_ev d (askOf q) h hc (may_good m1)) ?_; refine Ev.pos (by show (wrN d (askOf q)).length + 7 ≤ _; omega) ?_; rw [itoa_tell q.f4 (by omega)]; refine Ev.bind (Ev.now _) ?_; have e1 : (ba (wrN d (askOf q)) ++ (⟨#[32, 108, 105, 109, 105, 116, 58]⟩ : ByteArray)) = ba (wrN d (askOf q) ++ LIM) := ba_app _ LIM; rw [e1, ba_app]; have hlen1 : (wrN d (askOf q) ++ LIM ++ Lib.itoa q.f4).length ≤ 3000000000 := by simp only [List.length_append, LIM, List.length_cons, List.length_nil]; omega
 have hlen0 : (wrN d (askOf q) ++ LIM).length ≤ 2500000000 := by simp only [List.length_append, LIM, List.length_cons, List.length_nil]; omega
 refine Ev.pos (by rw [ba_size, ba_size]; omega) ?_; refine Ev.name fun v17 hv17 => ?_
 by_cases hp : q.f6 > 0
 ·refine Ev.pos hp ?_; refine Ev.name fun v24 hv24 => Ev.name fun v27 hv27 => ?_
  refine Ev.bind (Write_loop q.f7 q.f8 q.f5 q.f6 hv24 hv27 (by omega) (by omega) (by omega) (by omega)) ?_; have hj := join_len [46] [Lib.itoa q.f7, Lib.itoa q.f8, Lib.itoa q.f5, Lib.itoa q.f6]; simp only [List.map_cons, List.map_nil, List.sum_cons, List.sum_nil, List.length_cons, List.length_nil] at hj; refine Ev.bind ((Ev.now _).congr fun k => join_tell _ [46] (by simp) (by omega)) ?_; refine Ev.pos (by show 7 + (Lib.join _ _).length ≤ _; omega) ?_; have e2 : ((⟨#[32, 97, 102, 116, 101, 114, 58]⟩ : ByteArray) ++ ba (Lib.join [Lib.itoa q.f7, Lib.itoa q.f8, Lib.itoa q.f5, Lib.itoa q.f6] [46])) = ba (aftT q) := by
   unfold aftT; rw [if_pos hp]; exact ba_app _ _
  rw [e2]; have hlen2 : (aftT q).length ≤ 1000 := by
   unfold aftT; rw [if_pos hp, List.length_append]; simp only [List.length_cons, List.length_nil]; omega
  have e3 : v17 ++ ba (aftT q) = ba (writeL d q) := by rw [hv17, ba_app]; rfl
  rw [e3]; refine Ev.pos (by rw [hv17, ba_size, ba_size]; omega) ?_; refine Ev.bind (Ev.now _) ?_; rw [ba_size]; by_cases h200 : (writeL d q).length ≤ 200
  ·exact Ev.neg (by omega) ((Ev.now _).is (by rw [if_pos ⟨hm, h200⟩]))
  ·exact Ev.pos (by omega) ((Ev.now _).is (by rw [if_neg (fun e => h200 e.2)]))
 ·refine Ev.neg hp ?_; have e3 : v17 = ba (writeL d q) := by
   rw [hv17]; unfold writeL aftT; rw [if_neg hp, List.append_nil]
  rw [e3, ba_size]; by_cases h200 : (writeL d q).length ≤ 200
  ·exact Ev.neg (by omega) ((Ev.now _).is (by rw [if_pos ⟨hm, h200⟩]))
  ·exact Ev.pos (by omega) ((Ev.now _).is (by rw [if_neg (fun e => h200 e.2)]))
end Go.Proofs.YtmgkpphbehamcaaGreatDoor.Pure
namespace Go.Proofs.YtmgkpphbehamcaaGreatDoor.Pure
open Go Go.Gg Go.Gp Gf
set_option linter.unusedVariables false
set_option linter.unusedSimpArgs false
theorem SameTexts_refl (l : List ByteArray) (hl : l.length < 4294967296) : Ev (fun k => grapevinelaw0_SameTexts k l l) true := by
 unfold grapevinelaw0_SameTexts; refine Ev.neg (by simp) ?_; have key : ∀ n i, i + n = l.length → Ev (fun k => grapevinelaw0_SameTexts_l0 l l k (i : Int)) (Sum.inr ()) := by
  intro n
  induction n with
  | zero =>
   intro i hi; exact Ev.step (fun k => by rw [grapevinelaw0_SameTexts_l0]) (Ev.neg (by omega) (Ev.now _))
  | succ n ih =>
   intro i hi; refine Ev.step (fun k => by rw [grapevinelaw0_SameTexts_l0]) (Ev.pos (by omega) (Ev.pos (by omega) (Ev.pos (by omega) (Ev.neg (by simp) ?_)))); rw [i64w (by omega), show ((i : Nat) : Int) + 1 = ((i + 1 : Nat) : Int) by omega]; exact ih (i + 1) (by omega)
 exact Ev.bind (key l.length 0 (by omega)) (Ev.now _)
theorem SameAsk_loop (x : T26) (hl : x.f3.length ≤ 1000) : ∀ (n i : Nat) (R : Nat → T26 → T26 → Option Bool), (∀ s ∈ x.f3, Ev (fun k => R k s s) true) → i + n = x.f3.length → Ev (fun k => grapevinelaw0_SameAsk_l0 x x (R k) k (i : Int)) (Sum.inr ())
 | 0, i, R, hR, hi => Ev.step (fun k => by rw [grapevinelaw0_SameAsk_l0]) (Ev.neg (by omega) (Ev.now _))
 | n + 1, i, R, hR, hi => by
  refine Ev.step (fun k => by rw [grapevinelaw0_SameAsk_l0]) (Ev.pos (by omega) (Ev.pos (by omega) (Ev.pos (by omega) ?_))); rw [Int.toNat_natCast]; refine Ev.bind (hR _ (getD_mem x.f3 z26 (by omega))).shift (Ev.neg (by simp) ?_); rw [i64w (by omega), show ((i : Nat) : Int) + 1 = ((i + 1 : Nat) : Int) by omega]; exact SameAsk_loop x hl n (i + 1) (fun k => R (k + 1)) (fun s hs => (hR s hs).shift) (by omega)
theorem SameAsk_refl : ∀ (d : Nat) (x : T26), SmallN d x → Ev (fun k => grapevinelaw0_SameAsk k x x) true
 | 0, x, h => h.elim
 | d + 1, x, ⟨h1, h2, h3, h4⟩ => by
  refine Ev.step (fun k => by rw [grapevinelaw0_SameAsk]) ?_; refine Ev.bind (b := false) (Ev.neg (by simp) (Ev.neg (by simp) (Ev.bind (SameTexts_refl x.f2 (by omega)) (Ev.neg (by simp) ((Ev.now _).is (by simp)))))) (Ev.neg (by simp) ?_); exact Ev.bind (SameAsk_loop x h3 x.f3.length 0 (fun k => grapevinelaw0_SameAsk k) (fun s hs => SameAsk_refl d s (h4 s hs)) (by omega)) (Ev.now _)
theorem Equal_refl (l : List ByteArray) (hl : l.length < 4294967296) : Ev (fun k => slices_Equal k l l) true := by
 unfold slices_Equal; refine Ev.neg (by simp) ?_; have key : ∀ n i, i + n = l.length → Ev (fun k => slices_Equal_l0 l l k (i : Int)) (Sum.inr ()) := by
  intro n
  induction n with
  | zero =>
   intro i hi; exact Ev.step (fun k => by rw [slices_Equal_l0]) (Ev.neg (by omega) (Ev.now _))
  | succ n ih =>
   intro i hi; refine Ev.step (fun k => by rw [slices_Equal_l0]) (Ev.pos (by omega) (Ev.pos (by omega) (Ev.pos (by omega) (Ev.neg (by simp) ?_)))); rw [i64w (by omega), show ((i : Nat) : Int) + 1 = ((i + 1 : Nat) : Int) by omega]; exact ih (i + 1) (by omega)
 exact Ev.bind (key l.length 0 (by omega)) (Ev.now _)
theorem EqualF_loop (l : List T26) (hl : l.length ≤ 1000) : ∀ (n i : Nat) (R : Nat → T26 → T26 → Option Bool), (∀ s ∈ l, Ev (fun k => R k s s) true) → i + n = l.length → Ev (fun k => slices_EqualFunc_l0 l l (R k) k (i : Int)) (Sum.inr ())
 | 0, i, R, hR, hi => Ev.step (fun k => by rw [slices_EqualFunc_l0]) (Ev.neg (by omega) (Ev.now _))
 | n + 1, i, R, hR, hi => by
  refine Ev.step (fun k => by rw [slices_EqualFunc_l0]) (Ev.pos (by omega) (Ev.pos (by omega) (Ev.pos (by omega) ?_))); rw [Int.toNat_natCast, eta26]; refine Ev.bind (hR _ (getD_mem l z26 (by omega))).shift (Ev.neg (by simp) ?_); rw [i64w (by omega), show ((i : Nat) : Int) + 1 = ((i + 1 : Nat) : Int) by omega]; exact EqualF_loop l hl n (i + 1) (fun k => R (k + 1)) (fun s hs => (hR s hs).shift) (by omega)
theorem Same_refl : ∀ (d : Nat) (x : T26), SmallN d x → Ev (fun k => ask_Same k x x) true
 | 0, x, h => h.elim
 | d + 1, x, ⟨h1, h2, h3, h4⟩ => by
  refine Ev.step (fun k => by rw [ask_Same]) ?_; refine Ev.bind (Ev.pos rfl (Ev.pos rfl (Ev.bind (Equal_refl x.f2 (by omega)) (Ev.pos rfl (Ev.bind ?_ (Ev.now _)))))) (Ev.now _); unfold slices_EqualFunc; refine Ev.neg (by simp) (Ev.bind (EqualF_loop x.f3 h3 x.f3.length 0 (fun k => ask_Same k) (fun s hs => Same_refl d s (h4 s hs)) (by omega)) (Ev.now _))
def sA : List UInt8 := [97, 32, 65, 78, 68, 32, 78, 79, 84, 32, 98, 32, 79, 82, 32, 34, 99, 32, 100, 34]
def wA : T26 := ⟨8, 0, [], [⟨7, 0, [], [⟨1, 0, [⟨#[97]⟩], []⟩, ⟨9, 0, [], [⟨1, 0, [⟨#[98]⟩], []⟩]⟩]⟩, ⟨3, 0, [⟨#[99]⟩, ⟨#[100]⟩], []⟩]⟩
def qA : T34 := ⟨8, 0, [], wA.f3, 50, 0, 0, 0, 0, ⟨#[]⟩⟩
theorem read_A : readP sA = (qA, 0) := by kernel_rfl
theorem read_nil : readP [] = (z34', 14) := by kernel_rfl
theorem small_A : SmallN 4 wA := by
 unfold wA; simp [SmallN]; decide
theorem itoa50 : Lib.itoa 50 = [53, 48] := by
 unfold Lib.itoa; rw [if_neg (by decide)]; rw [Lib.decDigits, dif_neg (by decide), Lib.decDigits, dif_pos (by decide)]; rfl
theorem awake_ev : Ev (fun k => grapevinelaw14_awake k) true := by
 unfold grapevinelaw14_awake grapevinelaw14_word; have hs := small_A; have hc : cntN 4 wA ≤ 1000 := by decide +kernel
 have ha : askOf qA = wA := rfl; refine Ev.bind ((Read_ev sA (by decide)).is read_A) ?_; refine Ev.bind (Ev.now _) ?_; refine Ev.bind (b := (wA, (⟨9, 0, [], [⟨1, 0, [⟨#[98]⟩], []⟩]⟩ : T26), qA)) (Ev.bind (Ev.now _) (Ev.now _)) ?_; have hw : writeQ 4 qA = (ba (sA ++ [32, 108, 105, 109, 105, 116, 58, 53, 48]), 0) := by
  have e : writeL 4 qA = sA ++ [32, 108, 105, 109, 105, 116, 58, 53, 48] := by
   unfold writeL; rw [show qA.f4 = 50 from rfl, itoa50]; kernel_rfl
  unfold writeQ; rw [e, if_pos (by decide +kernel)]
 refine Ev.bind ((Write_ev (d := 4) (by omega) (q := qA) (by rw [ha]; exact hs) (by rw [ha]; exact hc)).is hw) ?_; refine Ev.bind ((Read_ev [] (by decide)).is read_nil) ?_; refine Ev.bind ?_ (Ev.now _); refine Ev.pos rfl ?_; refine Ev.bind (SameAsk_refl 4 wA hs) ?_; refine Ev.pos rfl (Ev.pos rfl (Ev.pos rfl (Ev.pos ?_ (Ev.pos rfl ?_))))
 ·exact (ba_beq _ _).trans (by decide +kernel)
 refine Ev.bind ((askMay_ev (d := 4) (by omega) hs hc).is (by decide +kernel : mayB 4 wA = true)) (Ev.pos rfl ?_); refine Ev.bind ((Terms_ev 4 wA hs hc).is (by decide +kernel : termsN 4 wA = 4)) (Ev.pos rfl ?_); refine Ev.bind ((Deep_ev 4 wA (by omega) hs).is (by decide +kernel : deepN 4 wA = 4)) (Ev.pos rfl ?_); exact Ev.bind (Same_refl 4 wA hs) (Ev.now _)
end Go.Proofs.YtmgkpphbehamcaaGreatDoor.Pure
