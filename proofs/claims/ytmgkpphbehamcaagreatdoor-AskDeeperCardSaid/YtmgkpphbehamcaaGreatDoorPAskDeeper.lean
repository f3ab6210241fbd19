/- The plain law of AskDeeper: a question that may be, turned round up to seven times, is as many deeper, and may be as long as it is not too deep. -/
import Derived.Test.YtmgkpphbehamcaaGreatDoorLAskDeeper
import Derived.Test.YtmgkpphbehamcaaGreatDoorPAwk
namespace Go.Proofs.YtmgkpphbehamcaaGreatDoor.Pure
open Go Go.Gg Go.Gp Gf
set_option linter.unusedVariables false
set_option linter.unusedSimpArgs false
def nots : Nat → T26 → T26
 | 0, x => x
 | n + 1, x => ⟨9, 0, [], [nots n x]⟩
theorem nots_small {d : Nat} {x : T26} (h : SmallN d x) : ∀ n, SmallN (d + n) (nots n x) ∧ cntN (d + n) (nots n x) = cntN d x + n ∧ deepN (d + n) (nots n x) = deepN d x + n ∧ termsN (d + n) (nots n x) = termsN d x ∧ (goodN d x = true → goodN (d + n) (nots n x) = true)
 | 0 => ⟨h, by simp [nots], by simp [nots], rfl, id⟩
 | n + 1 => by
  obtain ⟨a, b, c, e, f⟩ := nots_small h n; refine ⟨⟨by simp [nots], by simp [nots], by simp [nots], fun s hs => by simp [nots] at hs; rw [hs]; exact a⟩, ?_, ?_, ?_, fun hg => ?_⟩
  ·show 1 + ([nots n x].map (cntN (d + n))).sum = _; simp [b]; omega
  ·show ([nots n x].map (deepN (d + n))).foldl mx 0 + 1 = _; have := deepN_bound (d + n) (nots n x); simp only [List.map_cons, List.map_nil, List.foldl_cons, List.foldl_nil, c]; unfold mx
   split <;> omega
  ·show (if [nots n x] = [] then _ else ([nots n x].map (termsN (d + n))).sum) = _; rw [if_neg (by simp)]; simp [e]
  ·show (shapeB ⟨9, 0, [], [nots n x]⟩ && (([] : List ByteArray).all wordOK && [nots n x].all (goodN (d + n)))) = true; have : shapeB ⟨9, 0, [], [nots n x]⟩ = true := by unfold shapeB; exact decide_eq_true (by simp)
   rw [this]; simp [f hg]
theorem nots_loop (t : Int) (x : T26) (m : Nat) (ht : t = m) (hm : m < 8) : Ev (fun k => grapevinelaw14_AskDeeper_l0 t k 0 x) (nots m x) := by
 subst ht; have key : ∀ n i, i + n = m → Ev (fun k => grapevinelaw14_AskDeeper_l0 (m : Int) k (i : Int) (nots i x)) (nots m x) := by
  intro n
  induction n with
  | zero =>
   intro i hi; obtain rfl : i = m := by omega
   exact Ev.step (fun k => by rw [grapevinelaw14_AskDeeper_l0]) (Ev.neg (by omega) (Ev.now _))
  | succ n ih =>
   intro i hi; refine Ev.step (fun k => by rw [grapevinelaw14_AskDeeper_l0]) (Ev.pos (by omega) ?_); rw [i64w (by omega), show ((i : Nat) : Int) + 1 = ((i + 1 : Nat) : Int) by omega]; exact ih (i + 1) (by omega)
 exact key m 0 (by omega)
theorem Low8 (a : Int) : ∃ m : Nat, grapevinelaw0_Low a 8 = some (m : Int) ∧ m < 8 := by
 have hu : IntKind.u64.wrap 8 = 8 := by decide
 have hw : 0 ≤ IntKind.u64.wrap a := by rw [IntKind.wrap_u64]; omega
 refine ⟨(Int.tmod (IntKind.u64.wrap a) 8).toNat, ?_, ?_⟩
 ·unfold grapevinelaw0_Low; rw [hu, if_pos (by decide)]
  congr 1
  rw [Int.tmod_eq_emod_of_nonneg hw]; rw [i64w (by omega)]; omega
 ·rw [Int.tmod_eq_emod_of_nonneg hw]; omega
theorem may_parts {d : Nat} {x : T26} : mayB d x = true ↔ deepN d x ≤ 6 ∧ termsN d x ≤ 16 ∧ goodN d x = true := by
 unfold mayB; simp
theorem AskDeeper : AskDeeper_Pure := by
 intro a n ha hn; apply Ev.rounds; unfold grapevinelaw14_AskDeeper; have aw : Ev (fun k => (grapevinelaw14_awake k).bind fun t => some t) true := Ev.bind awake_ev (Ev.now _); obtain ⟨g, hg, hgs⟩ := GreatAsk_ev a
 cases g with
 | true => exact Ev.bind (b := true) (Ev.bind hg (Ev.pos rfl (Ev.now _))) (Ev.pos rfl aw)
 | false =>
 obtain ⟨s1, s2⟩ := hgs rfl; have hmay := askMay_ev (d := 13) (by omega) s1 (by omega)
 cases hm : mayB 13 a with
 | false =>
  rw [hm] at hmay; exact Ev.bind (b := true) (Ev.bind hg (Ev.neg Bool.false_ne_true (Ev.bind hmay (Ev.now _)))) (Ev.pos rfl aw)
 | true =>
 rw [hm] at hmay; obtain ⟨p1, p2, p3⟩ := may_parts.1 hm; refine Ev.bind (b := false) (Ev.bind hg (Ev.neg Bool.false_ne_true (Ev.bind hmay (Ev.now _)))) (Ev.neg Bool.false_ne_true ?_); refine Ev.bind (Deep_ev 13 a (by omega) s1) ?_; refine Ev.bind (Terms_ev 13 a s1 (by omega)) ?_; obtain ⟨m, hlow, hm8⟩ := Low8 n; rw [hlow]; refine Ev.bind (Ev.now _) ?_; refine Ev.bind (nots_loop (m : Int) a m rfl hm8) ?_; obtain ⟨b1, b2, b3, b4, b5⟩ := nots_small s1 m; have hb := deepN_bound 13 a; have hmay2 := askMay_ev (d := 13 + m) (by omega) b1 (by omega); have hiff : mayB (13 + m) (nots m a) = decide (deepN 13 a + (m : Int) ≤ 6) := by
  rw [Bool.eq_iff_iff, may_parts, b3, b4, decide_eq_true_eq]; exact ⟨fun h => h.1, fun h => ⟨h, p2, b5 p3⟩⟩
 refine Ev.bind (b := false) ?_ (Ev.neg Bool.false_ne_true ?_)
 ·refine Ev.bind (Deep_ev (13 + m) (nots m a) (by omega) b1) ?_; rw [i64w (by omega)]; refine Ev.neg (by simpa using b3) ?_; refine Ev.bind (Terms_ev (13 + m) (nots m a) b1 (by omega)) ?_; refine Ev.neg (by simpa using b4) ?_; refine Ev.bind hmay2 ((Ev.now _).is ?_); rw [hiff]; simp
 have hq : askOf ⟨(nots m a).f0, (nots m a).f1, (nots m a).f2, (nots m a).f3, 1, 0, 0, 0, 0, (⟨#[]⟩ : ByteArray)⟩ = nots m a := eta26 _; have hW := Write_ev (d := 13 + m) (by omega) (q := ⟨(nots m a).f0, (nots m a).f1, (nots m a).f2, (nots m a).f3, 1, 0, 0, 0, 0, (⟨#[]⟩ : ByteArray)⟩) (by rw [hq]; exact b1) (by rw [hq]; omega); refine Ev.bind hW ?_; unfold writeQ; by_cases hc : mayQB (13 + m) ⟨(nots m a).f0, (nots m a).f1, (nots m a).f2, (nots m a).f3, 1, 0, 0, 0, 0, (⟨#[]⟩ : ByteArray)⟩ = true ∧ (writeL (13 + m) ⟨(nots m a).f0, (nots m a).f1, (nots m a).f2, (nots m a).f3, 1, 0, 0, 0, 0, (⟨#[]⟩ : ByteArray)⟩).length ≤ 200
 case neg =>
  rw [if_neg hc]; exact Ev.pos (by decide) (Ev.bind (Ev.pos (beq_self_eq_true _) aw) (Ev.now _))
 rw [if_pos hc]; refine Ev.neg (by simp) ?_; refine Ev.bind ?_ (Ev.now _); have hm2 : mayB (13 + m) (nots m a) = true := by
  have := (mayQ_parts hc.1).1
  rwa [hq] at this
 have fin : Ev (fun k => (ask_May k (nots m a)).bind fun t81 => (if t81 = true then ((grapevinelaw14_awake k).bind fun t86 => some t86) else some false)) true :=
  Ev.bind (hmay2.is hm2) (Ev.pos rfl aw)
 by_cases h0 : (m : Int) = 0
 ·exact Ev.pos h0 fin
 refine Ev.neg h0 ?_; obtain ⟨m', rfl⟩ : ∃ m', m = m' + 1 := ⟨m - 1, by omega⟩; have hL2 : ∃ c r, writeL (13 + (m' + 1)) ⟨(nots (m' + 1) a).f0, (nots (m' + 1) a).f1, (nots (m' + 1) a).f2, (nots (m' + 1) a).f3, 1, 0, 0, 0, 0, (⟨#[]⟩ : ByteArray)⟩ = [78, 79, 84, 32] ++ (c :: r) := by
  unfold writeL; rw [hq]; have e : wrN (13 + (m' + 1)) (nots (m' + 1) a) = [78, 79, 84, 32] ++ (([nots m' a].map fun s => withP 9 s (wrN (13 + m') s)).getD 0 []) := rfl; rw [e]; generalize ([nots m' a].map fun s => withP 9 s (wrN (13 + m') s)).getD 0 [] = u; generalize Lib.itoa _ = v; generalize aftT _ = w
  cases u with
  | nil => exact ⟨32, [108, 105, 109, 105, 116, 58] ++ v ++ w, by simp [LIM]⟩
  | cons c r => exact ⟨c, r ++ LIM ++ v ++ w, by simp⟩
 obtain ⟨c, r, hcr⟩ := hL2; rw [hcr]
 dsimp only
 rw [ba_size]; refine Ev.pos (by simp; omega) (Ev.pos (by simp; omega) (Ev.pos ?_ fin)); rw [ba_extract]; exact (ba_beq _ [78, 79, 84, 32]).trans (decide_eq_true rfl)
end Go.Proofs.YtmgkpphbehamcaaGreatDoor.Pure
