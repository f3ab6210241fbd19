/- The plain law of AskBrackets: in brackets a question is what it is without; words are read however they are written. -/
import Derived.Test.YtmgkpphbehamcaaGreatDoorLAskBrackets
import Derived.Test.YtmgkpphbehamcaaGreatDoorPAwk
import Derived.Test.YtmgkpphbehamcaaGreatDoorPBrk
namespace Go.Proofs.YtmgkpphbehamcaaGreatDoor.Pure
open Go Go.Gg Go.Gp Gf
set_option linter.unusedVariables false
set_option linter.unusedSimpArgs false
def Low (b : UInt8) : Prop := 97 ≤ b.toNat ∧ b.toNat ≤ 122
def Up (b : UInt8) : Prop := 65 ≤ b.toNat ∧ b.toNat ≤ 90
theorem let_tab : (List.range 26).all (fun n => !(oth ((97 + n : Nat) : Int)) && (!(oth ((65 + n : Nat) : Int)) && (decide (Lib.toLowerU ((97 + n : Nat) : Int) = ((97 + n : Nat) : Int)) && decide (Lib.toLowerU ((65 + n : Nat) : Int) = ((97 + n : Nat) : Int))))) = true := by decide +kernel
theorem low_let {b : UInt8} (h : Low b) : oth (b.toNat : Int) = false ∧ Lib.toLowerU (b.toNat : Int) = (b.toNat : Int) := by
 have := List.all_eq_true.1 let_tab (b.toNat - 97) (List.mem_range.2 (by have := h.1; have := h.2; omega)); rw [Bool.and_eq_true, Bool.and_eq_true, Bool.and_eq_true] at this; obtain ⟨a, _, c, _⟩ := this; have e : ((97 + (b.toNat - 97) : Nat) : Int) = (b.toNat : Int) := by have := h.1; omega
 rw [e] at a c; exact ⟨by simpa using a, of_decide_eq_true c⟩
theorem up_let {b : UInt8} (h : Up b) : oth (b.toNat : Int) = false ∧ Lib.toLowerU (b.toNat : Int) = ((b.toNat + 32 : Nat) : Int) := by
 have := List.all_eq_true.1 let_tab (b.toNat - 65) (List.mem_range.2 (by have := h.1; have := h.2; omega)); rw [Bool.and_eq_true, Bool.and_eq_true, Bool.and_eq_true] at this; obtain ⟨_, b', _, d⟩ := this; have e : ((65 + (b.toNat - 65) : Nat) : Int) = (b.toNat : Int) := by have := h.1; omega
 have e2 : ((97 + (b.toNat - 65) : Nat) : Int) = ((b.toNat + 32 : Nat) : Int) := by have := h.1; omega
 rw [e] at b' d; rw [e2] at d; exact ⟨by simpa using b', of_decide_eq_true d⟩
theorem enc_one {b : UInt8} (h : b.toNat < 128) : Lib.encodeRune (b.toNat : Int) = [b] := by
 unfold Lib.encodeRune; rw [Lib.encodeRuneZ_one (by omega) (by omega)]; simp
theorem ba_bs : ∀ {l : List UInt8}, (∀ b ∈ l, b.toNat < 128) → ba l = bs (l.map fun b => (b.toNat : Int)) := by
 intro l h; unfold bs ba
 congr 2
 induction l with
 | nil => rfl
 | cons b t ih =>
  rw [List.map_cons, enc_cons, enc_one (h b (by simp)), ← ih (fun x hx => h x (by simp [hx]))]; rfl
theorem sc_small {n : Nat} (h : n < 128) : Sc (n : Int) := .inl (by omega)
theorem one_ascii {l : List UInt8} (h0 : l ≠ []) (h : ∀ b ∈ l, b.toNat < 128 ∧ oth (b.toNat : Int) = false) : oneD (ba l) = true := by
 have hs : ∀ r ∈ (l.map fun b => (b.toNat : Int)), Sc r := fun r hr => by
  obtain ⟨b, hb, rfl⟩ := List.mem_map.1 hr; exact sc_small (h b hb).1
 rw [ba_bs (fun b hb => (h b hb).1)]; unfold oneD; rw [bs_valid, runesOf_bs _ hs, Bool.true_and, Bool.and_eq_true]; refine ⟨decide_eq_true (by simpa using h0), List.all_eq_true.2 fun r hr => ?_⟩; obtain ⟨b, hb, rfl⟩ := List.mem_map.1 hr; rw [(h b hb).2]; rfl
theorem norm_ascii {l m : List UInt8} (h : ∀ b ∈ l, b.toNat < 128) (hm : ∀ b ∈ m, b.toNat < 128) (he : (l.map fun b => Lib.toLowerU (b.toNat : Int)) = m.map fun b => (b.toNat : Int)) : normD (ba l) = ba m := by
 have hs : ∀ r ∈ (l.map fun b => (b.toNat : Int)), Sc r := fun r hr => by
  obtain ⟨b, hb, rfl⟩ := List.mem_map.1 hr; exact sc_small (h b hb)
 rw [ba_bs h, normD_bs _ hs, ba_bs hm, List.map_map]
 congr 1
theorem item_plain {l : List UInt8} (h34 : l.head? ≠ some 34) (h32 : 32 ∉ l) : itemL l = l := by
 unfold itemL; rw [if_neg (fun e => h34 e.1)]; exact takeWhile_self _ _ fun x hx => by simp only [bne_iff_ne, ne_eq]; exact fun e => h32 (e ▸ hx)
theorem single_run {l : List UInt8} (h0 : l ≠ []) (h34 : l.head? ≠ some 34) (h32 : 32 ∉ l) (hN : l ≠ NOT_) (hP : l ≠ [40]) {x : T26} (hx : leafP l ⟨[], true, false⟩ = (x, ⟨[], true, false⟩)) : runP l = (x, ⟨[], true, false⟩) := by
 have hn : nextP ⟨l, false, false⟩ = l := by unfold nextP; rw [if_neg (by simp)]; exact item_plain h34 h32
 have ht : takeP ⟨l, false, false⟩ = ⟨[], true, false⟩ := by unfold takeP; rw [hn, if_neg h0, if_pos rfl]
 have hone : oneP (l.length + 1) ⟨l, false, false⟩ = (x, ⟨[], true, false⟩) := by
  rw [oneP, hn, ht, if_neg hN, if_neg hP, if_neg (by decide)]; exact hx
 unfold runP; have hne : nextP (oneP (l.length + 1) ⟨l, false, false⟩).2 = [] := by rw [hone]; rfl
 rw [any_single _ _ (by omega) _ (by rw [hne]; decide) (by rw [hne]; decide), hone]
theorem told_colon {it w : List UInt8} (hw : 58 ∈ w) (h : 58 ∉ it) : toldL it w = none := by
 cases ht : toldL it w with
 | none => rfl
 | some n =>
  obtain ⟨d, hd, _⟩ := told_pre ht; exact absurd (by rw [hd]; exact List.mem_append_left _ hw) h
theorem leaf_word {l : List UInt8} (h34 : l.head? ≠ some 34) (hc : 58 ∉ l) (hs : 42 ∉ l) (hok : okW 1 (ba l) = true) (p : PS) : leafP l p = (⟨1, 0, [normD (ba l)], []⟩, p) := by
 unfold leafP; rw [told_colon (by decide) hc, told_colon (by decide) hc, told_colon (by decide) hc]
 dsimp only
 have h42 : ¬ Lib.hasSuffix l [42] = true := fun e => by
  have : [42] <:+ l := by simpa [Lib.hasSuffix] using e
  exact hs (this.subset (by simp))
 rw [if_neg h34, if_neg h42]; unfold wordsP; rw [if_pos (by simpa using hok)]; rfl
theorem leaf_prefix {l : List UInt8} (h34 : (l ++ [42]).head? ≠ some 34) (hc : 58 ∉ l) (hok : okW 2 (ba l) = true) (p : PS) : leafP (l ++ [42]) p = (⟨2, 0, [normD (ba l)], []⟩, p) := by
 have hc' : 58 ∉ l ++ [42] := by simp [hc]
 unfold leafP; rw [told_colon (by decide) hc', told_colon (by decide) hc', told_colon (by decide) hc']
 dsimp only
 have h42 : Lib.hasSuffix (l ++ [42]) [42] = true := by simp [Lib.hasSuffix]
 rw [if_neg h34, if_pos h42]; unfold wordsP; have e : (l ++ [42]).take ((l ++ [42]).length - 1) = l := by simp
 rw [e, if_pos (by simpa using hok)]; rfl
theorem may_leaf (d : Nat) (k : Int) (w : ByteArray) (hk : k = 1 ∨ k = 2) : mayB (d + 1) ⟨k, 0, [w], []⟩ = wordOK w := by
 unfold mayB; have h1 : deepN (d + 1) ⟨k, 0, [w], []⟩ = 1 := rfl; have h2 : termsN (d + 1) ⟨k, 0, [w], []⟩ = 1 := by
  rw [termsN, if_pos rfl]; unfold mx; simp
 have h3 : goodN (d + 1) ⟨k, 0, [w], []⟩ = wordOK w := by
  rw [goodN]; have : shapeB ⟨k, 0, [w], []⟩ = true := by unfold shapeB; exact decide_eq_true (by rcases hk with rfl | rfl <;> simp)
  rw [this]; simp
 rw [h1, h2, h3]; simp
theorem single_read {l : List UInt8} {k : Int} {w : ByteArray} (hl : l.length ≤ 200) (hr : runP l = (⟨k, 0, [w], []⟩, ⟨[], true, false⟩)) (hk : k = 1 ∨ k = 2) (hw : wordOK w = true) : readP l = (⟨k, 0, [w], [], 50, 0, 0, 0, 0, ⟨#[]⟩⟩, 0) := by
 have hrd : rdP l = (⟨[], true, false⟩, ⟨k, 0, [w], [], 50, 0, 0, 0, 0, ⟨#[]⟩⟩) := by
  unfold rdP; rw [hr]; rfl
 have hok : okP l = true := by
  unfold okP; rw [hrd]; have hm : mayQB 700 ⟨k, 0, [w], [], 50, 0, 0, 0, 0, ⟨#[]⟩⟩ = true := by
   unfold mayQB; have : mayB 700 (askOf ⟨k, 0, [w], [], 50, 0, 0, 0, 0, ⟨#[]⟩⟩) = true := (may_leaf 699 k w hk).trans hw; rw [this]; simp [aftB, aft]
  rw [hm, decide_eq_true hl]; rfl
 unfold readP; rw [if_pos hok, hrd]
theorem bt_get {l : List UInt8} {i : Nat} (hi : i < l.length) : bt (ba l) (i : Int) = ((l.getD i 0).toNat : Int) := by
 unfold bt; rw [Int.toNat_natCast, dif_pos (show i < (ba l).size from hi), getD_eq _ _ hi]; rfl
theorem low_ev {l : List UInt8} (hl : l.length ≤ 1000) : ((∀ b ∈ l, Low b) ∧ Ev (fun k => grapevinelaw14_AskBrackets_l0 (ba l) k 0) (Sum.inr ())) ∨ Ev (fun k => grapevinelaw14_AskBrackets_l0 (ba l) k 0) (Sum.inl true) := by
 obtain ⟨r, hr, hE⟩ := Ev.loop (F := fun k (i : Int) => grapevinelaw14_AskBrackets_l0 (ba l) k i) (fun i n => 0 ≤ i ∧ i + n = l.length ∧ ∀ j : Nat, (j : Int) < i → Low (l.getD j 0))
  (fun r => (r = Sum.inr () ∧ ∀ b ∈ l, Low b) ∨ r = Sum.inl true) (fun i n hI => by
   obtain ⟨h0, hn, hall⟩ := hI; obtain ⟨j, rfl⟩ := Int.eq_ofNat_of_zero_le h0; by_cases hc : j < l.length
   ·have hb := bt_get hc; have hcond : 0 ≤ (j : Int) ∧ (j : Int) < ((ba l).size : Int) := by rw [ba_size]; omega
    have htest : (if 0 ≤ (j : Int) ∧ (j : Int) < ((ba l).size : Int) then (if (bt (ba l) (j : Int)) < 97 then some true else (if 0 ≤ (j : Int) ∧ (j : Int) < ((ba l).size : Int) then some (decide ((bt (ba l) (j : Int)) > 122)) else none)) else none) = some (decide (¬ (97 ≤ (l.getD j 0).toNat ∧ (l.getD j 0).toNat ≤ 122))) := by
     rw [if_pos hcond, if_pos hcond, hb]; by_cases c : ((l.getD j 0).toNat : Int) < 97
     ·rw [if_pos c, decide_eq_true (by omega)]
     ·rw [if_neg c]
      congr 1
      rw [decide_eq_decide]; omega
    by_cases hw : Low (l.getD j 0)
    ·refine .inr ⟨((j + 1 : Nat) : Int), n - 1, by omega, ⟨by omega, by omega, fun i hi => ?_⟩, fun r H => ?_⟩
     ·by_cases e : (i : Int) < (j : Int)
      ·exact hall i e
      ·have : i = j := by omega
       rw [this]; exact hw
     ·refine Ev.step (fun k => by rw [grapevinelaw14_AskBrackets_l0]) (Ev.pos (by rw [ba_size]; omega) ?_); rw [htest]; refine Ev.bind (Ev.now _) (Ev.neg (by rw [decide_eq_false (fun e => e hw)]; decide) ?_); rw [i64w (by omega), show ((j : Nat) : Int) + 1 = ((j + 1 : Nat) : Int) by omega]; exact H
    ·refine .inl ⟨Sum.inl true, .inr rfl, ?_⟩; refine Ev.step (fun k => by rw [grapevinelaw14_AskBrackets_l0]) (Ev.pos (by rw [ba_size]; omega) ?_); rw [htest]; exact Ev.bind (Ev.now _) (Ev.pos (decide_eq_true hw) (Ev.bind awake_ev (Ev.now _)))
   ·refine .inl ⟨Sum.inr (), .inl ⟨rfl, fun b hb => ?_⟩, ?_⟩
    ·obtain ⟨i, hi, rfl⟩ := List.mem_iff_getElem.1 hb; have := hall i (by omega)
     rwa [getD_eq _ _ hi] at this
    ·exact Ev.step (fun k => by rw [grapevinelaw14_AskBrackets_l0]) (Ev.neg (by rw [ba_size]; omega) (Ev.now _))) 0 l.length ⟨by omega, by omega, fun j hj => absurd hj (by omega)⟩
 rcases hr with ⟨rfl, hall⟩ | rfl
 ·exact .inl ⟨hall, hE⟩
 ·exact .inr hE
theorem big_ev {l : List UInt8} (hl : l.length ≤ 1000) (hw : ∀ b ∈ l, Low b) : Ev (fun k => grapevinelaw14_AskBrackets_l1 (ba l) k ([] : List Int) 0) (l.map fun b => ((b.toNat - 32 : Nat) : Int)) := by
 have key : ∀ n i, i + n = l.length → Ev (fun k => grapevinelaw14_AskBrackets_l1 (ba l) k ((l.take i).map fun b => ((b.toNat - 32 : Nat) : Int)) (i : Int)) (l.map fun b => ((b.toNat - 32 : Nat) : Int)) := by
  intro n
  induction n with
  | zero =>
   intro i hi; obtain rfl : i = l.length := by omega
   rw [List.take_length]; exact Ev.step (fun k => by rw [grapevinelaw14_AskBrackets_l1]) (Ev.neg (by rw [ba_size]; omega) (Ev.now _))
  | succ n ih =>
   intro i hi; have hil : i < l.length := by omega
   have hL := hw _ (getD_mem l 0 hil); refine Ev.step (fun k => by rw [grapevinelaw14_AskBrackets_l1]) (Ev.pos (by rw [ba_size]; omega) (Ev.pos (by rw [ba_size]; omega) ?_)); refine Ev.pos (by simp; omega) ?_; have e : IntKind.u8.wrap ((bt (ba l) (i : Int)) - 32) = (((l.getD i 0).toNat - 32 : Nat) : Int) := by
    rw [bt_get hil, u8w (by have := hL.1; have := hL.2; omega)]; have := hL.1; omega
   rw [e, i64w (by omega), show ((i : Nat) : Int) + 1 = ((i + 1 : Nat) : Int) by omega]; have := ih (i + 1) (by omega); rw [take_getD l 0 hil, List.map_append] at this; exact this
 exact key l.length 0 (by omega)
def upper (l : List UInt8) : List UInt8 := l.map fun b => (b.toNat - 32).toUInt8
theorem up_nat {b : UInt8} (h : Low b) : ((b.toNat - 32).toUInt8).toNat = b.toNat - 32 := by
 have h2 := h.2; have : (b.toNat - 32).toUInt8.toNat = (b.toNat - 32) % 256 := by simp [Nat.toUInt8]
 rw [this]; omega
theorem upper_up {l : List UInt8} (hw : ∀ b ∈ l, Low b) : ∀ b ∈ upper l, Up b := by
 intro b hb; obtain ⟨c, hc, rfl⟩ := List.mem_map.1 hb; have := hw c hc; have h1 := this.1; have h2 := this.2; unfold Up; rw [up_nat this]; omega
theorem upper_nums {l : List UInt8} (hw : ∀ b ∈ l, Low b) : strOfNums (l.map fun b => ((b.toNat - 32 : Nat) : Int)) = ba (upper l) := by
 unfold strOfNums upper ba
 congr 1
 rw [List.map_map]; apply Array.toList_inj.1; simp only []; apply List.map_congr_left; intro b hb; simp
theorem SameTexts_one (w : ByteArray) : Ev (fun k => grapevinelaw0_SameTexts k [w] [w]) true := SameTexts_refl [w] (by simp)
theorem lows_ok {l : List UInt8} (h0 : l ≠ []) (hw : ∀ b ∈ l, Low b) : oneD (ba l) = true ∧ normD (ba l) = ba l :=
 ⟨one_ascii h0 fun b hb => ⟨by have := (hw b hb).2; omega, (low_let (hw b hb)).1⟩,
  norm_ascii (fun b hb => by have := (hw b hb).2; omega) (fun b hb => by have := (hw b hb).2; omega) (List.map_congr_left fun b hb => (low_let (hw b hb)).2)⟩
theorem ups_ok {l : List UInt8} (h0 : l ≠ []) (hw : ∀ b ∈ l, Low b) : oneD (ba (upper l)) = true ∧ normD (ba (upper l)) = ba l := by
 have hu := upper_up hw; refine ⟨one_ascii (by simpa [upper] using h0) fun b hb => ⟨by have := (hu b hb).2; omega, (up_let (hu b hb)).1⟩,
  norm_ascii (fun b hb => by have := (hu b hb).2; omega) (fun b hb => by have := (hw b hb).2; omega) ?_⟩
 unfold upper; rw [List.map_map]; apply List.map_congr_left; intro b hb; have hb' := hw b hb; have : Up ((b.toNat - 32).toUInt8) := hu _ (List.mem_map.2 ⟨b, hb, rfl⟩); show Lib.toLowerU (((b.toNat - 32).toUInt8).toNat : Int) = _; rw [(up_let this).2, up_nat hb']; have := hb'.1; omega
theorem no_low {l : List UInt8} (hw : ∀ b ∈ l, Low b) {c : UInt8} (hc : ¬ Low c) : c ∉ l := fun h => hc (hw c h)
theorem upper_inj {l m : List UInt8} (hl : ∀ b ∈ l, Low b) (h : upper l = m) : l = m.map fun b => (b.toNat + 32).toUInt8 := by
 subst h; unfold upper; rw [List.map_map]
 conv => lhs; rw [← List.map_id l]
 apply List.map_congr_left; intro b hb; show b = (((b.toNat - 32).toUInt8).toNat + 32).toUInt8; rw [up_nat (hl b hb)]; have h1 := (hl b hb).1; have e : b.toNat - 32 + 32 = b.toNat := by omega
 rw [e]; simp
theorem AskBrackets : AskBrackets_Pure := by
 intro s w hs0 hw0; obtain ⟨s, rfl⟩ : ∃ l, s = ba l := ⟨s.data.toList, rfl⟩; obtain ⟨w, rfl⟩ : ∃ l, w = ba l := ⟨w.data.toList, rfl⟩; apply Ev.rounds; unfold grapevinelaw14_AskBrackets; have aw : Ev (fun k => (grapevinelaw14_awake k).bind fun t => some t) true := Ev.bind awake_ev (Ev.now _); rw [ba_size, ba_size]; by_cases c1 : (s.length : Int) > 90
 ·exact Ev.bind (b := true) (Ev.pos c1 (Ev.now _)) (Ev.pos rfl aw)
 by_cases c2 : (w.length : Int) > 30
 ·exact Ev.bind (b := true) (Ev.neg c1 ((Ev.now _).is (decide_eq_true c2))) (Ev.pos rfl aw)
 refine Ev.bind (b := false) (Ev.neg c1 ((Ev.now _).is (decide_eq_false c2))) (Ev.neg (by decide) ?_); refine Ev.bind (Read_ev s (by omega)) ?_; refine Ev.pos (by show 2 + s.length ≤ _; omega) ?_; have e1 : (⟨#[40, 32]⟩ : ByteArray) ++ ba s ++ (⟨#[32, 41]⟩ : ByteArray) = ba (inB s) := by
  show ba [40, 32] ++ ba s ++ ba [32, 41] = _; rw [ba_app, ba_app]; rfl
 have hlen : (inB s).length = s.length + 4 := by simp [inB]
 refine Ev.pos (by
  have := congrArg ByteArray.size e1; rw [ByteArray.size_append] at this; rw [this, ba_size, hlen]; omega) ?_
 rw [e1]; refine Ev.bind (Read_ev (inB s) (by omega)) ?_; have r0 : ∀ l : List UInt8, (readP l).2 = 0 ↔ okP l = true := fun l => by
  unfold readP; by_cases h : okP l = true
  ·rw [if_pos h]; simp [h]
  ·rw [if_neg h]; simp [h]
 have hask : ∀ q : T34, (⟨q.f0, q.f1, q.f2, q.f3⟩ : T26) = askOf q := fun q => rfl
 refine Ev.bind (b := false) ?_ (Ev.neg (by decide) ?_)
 ·refine Ev.ite (fun a1 => ?_) (fun _ => Ev.now _); refine Ev.ite (fun a2 => ?_) (fun _ => Ev.now _); refine Ev.ite (fun a3 => ?_) (fun _ => Ev.now _); refine Ev.ite (fun a4 => ?_) (fun _ => Ev.now _); have k1 := (r0 s).1 a1; have k2 := (r0 (inB s)).1 a4; rw [hask, hask, read_ask k1, read_ask k2, brk_same k1 k2]; exact Ev.bind (SameAsk_refl 700 (runP s).1 (runP_small (ok_parts k1).1 (ok_run k1)).1) (Ev.now _)
 rcases low_ev (l := w) (by omega) with ⟨hlow, hE⟩ | hE
 case inr => exact Ev.bind hE (Ev.now _)
 refine Ev.bind hE ?_
 dsimp only
 have e2 : ((ba w).toList == (⟨#[]⟩ : ByteArray).toList) = decide (w = []) := ba_beq _ []; rw [e2]; by_cases hw : w = []
 ·refine Ev.pos (decide_eq_true hw) (Ev.bind ?_ (Ev.now _)); refine Ev.ite (fun a => aw) (fun a => ?_); have k2 := (r0 (inB s)).1 (Decidable.not_not.1 a); obtain ⟨b, hb, hiff⟩ := ending_ev (s := s) (by omega); have hbt : b = true := hiff.2 (brk_noLim k2); exact Ev.bind hb (Ev.pos hbt aw)
 refine Ev.neg (by simpa using hw) ?_; have e3 : ((ba w).toList == (⟨#[97, 110, 100]⟩ : ByteArray).toList) = decide (w = [97, 110, 100]) := ba_beq _ _; have e4 : ((ba w).toList == (⟨#[111, 114]⟩ : ByteArray).toList) = decide (w = [111, 114]) := ba_beq _ _; have e5 : ((ba w).toList == (⟨#[110, 111, 116]⟩ : ByteArray).toList) = decide (w = [110, 111, 116]) := ba_beq _ _; rw [e3, e4, e5]; by_cases d1 : w = [97, 110, 100]
 ·exact Ev.bind (b := true) (Ev.pos (decide_eq_true d1) (Ev.now _)) (Ev.pos rfl aw)
 by_cases d2 : w = [111, 114]
 ·exact Ev.bind (b := true) (Ev.neg (by simpa using d1) (Ev.pos (decide_eq_true d2) (Ev.now _))) (Ev.pos rfl aw)
 by_cases d3 : w = [110, 111, 116]
 ·exact Ev.bind (b := true) (Ev.neg (by simpa using d1) (Ev.neg (by simpa using d2) ((Ev.now _).is (decide_eq_true d3)))) (Ev.pos rfl aw)
 refine Ev.bind (b := false) (Ev.neg (by simpa using d1) (Ev.neg (by simpa using d2) ((Ev.now _).is (decide_eq_false d3)))) (Ev.neg (by decide) ?_); refine Ev.bind (big_ev (by omega) hlow) ?_; obtain ⟨o1, o2⟩ := lows_ok hw hlow; obtain ⟨o3, o4⟩ := ups_ok hw hlow; have hup := upper_up hlow; have hword : wordOK (ba w) = true := by
  unfold wordOK; rw [o1, o2, decide_eq_true (by rw [ba_size]; omega)]; simp
 have hh : ∀ {l : List UInt8} {c : UInt8}, c ∉ l → l.head? ≠ some c := fun h e => h (List.mem_of_mem_head? e)
 -- the word
 have hrd1 : readP w = (⟨1, 0, [ba w], [], 50, 0, 0, 0, 0, ⟨#[]⟩⟩, 0) := by
  have hsg : signB (ba w) = false := by
   unfold signB; rw [decide_eq_false (fun e => no_low hlow (c := 65) (by unfold Low; decide) (by rw [ba_inj.1 e]; simp)), decide_eq_false (fun e => no_low hlow (c := 79) (by unfold Low; decide) (by rw [ba_inj.1 e]; simp)), decide_eq_false (fun e => no_low hlow (c := 78) (by unfold Low; decide) (by rw [ba_inj.1 e]; simp))]; rfl
  have hx := leaf_word (l := w) (hh (no_low hlow (by unfold Low; decide))) (no_low hlow (by unfold Low; decide)) (no_low hlow (by unfold Low; decide)) (by unfold okW; rw [o1, hsg]; simp) ⟨[], true, false⟩; rw [o2] at hx; have hr := single_run hw (hh (no_low hlow (by unfold Low; decide))) (no_low hlow (by unfold Low; decide)) (fun e => no_low hlow (c := 78) (by unfold Low; decide) (by rw [e]; simp [NOT_])) (fun e => no_low hlow (c := 40) (by unfold Low; decide) (by rw [e]; simp)) hx; exact single_read (by omega) hr (.inl rfl) hword
 refine Ev.bind ((Read_ev w (by omega)).is hrd1) ?_; have hnm := upper_nums hlow; have hul : (upper w).length = w.length := by simp [upper]
 rw [hnm]; refine Ev.pos (by rw [ba_size, hul]; show w.length + 1 ≤ _; omega) ?_; have e6 : ba (upper w) ++ (⟨#[42]⟩ : ByteArray) = ba (upper w ++ [42]) := ba_app _ [42]; rw [e6]; have noU : ∀ {c : UInt8}, ¬ Up c → c ∉ upper w := fun hc h => hc (hup _ h)
 have noU2 : ∀ {c : UInt8}, ¬ Up c → c ≠ 42 → c ∉ upper w ++ [42] := fun hc h2 h => by
  rcases List.mem_append.1 h with h | h
  ·exact noU hc h
  ·exact h2 (by simpa using h)
 have hrd2 : readP (upper w ++ [42]) = (⟨2, 0, [ba w], [], 50, 0, 0, 0, 0, ⟨#[]⟩⟩, 0) := by
  have hsg : signB (ba (upper w)) = false := by
   unfold signB; rw [decide_eq_false (fun e => d1 ((upper_inj hlow (ba_inj.1 e)).trans rfl)), decide_eq_false (fun e => d2 ((upper_inj hlow (ba_inj.1 e)).trans rfl)), decide_eq_false (fun e => d3 ((upper_inj hlow (ba_inj.1 e)).trans rfl))]; rfl
  have hx := leaf_prefix (l := upper w) (hh (noU2 (by unfold Up; decide) (by decide))) (noU (by unfold Up; decide)) (by unfold okW; rw [o3, hsg]; simp) ⟨[], true, false⟩; rw [o4] at hx; have hr := single_run (l := upper w ++ [42]) (by simp) (hh (noU2 (by unfold Up; decide) (by decide))) (noU2 (by unfold Up; decide) (by decide)) (fun e => by
   have : (42 : UInt8) ∈ NOT_ := by rw [← e]; simp
   revert this; decide) (fun e => by
   have : (42 : UInt8) ∈ [40] := by rw [← e]; simp
   revert this; decide) hx
  exact single_read (by simp [hul]; omega) hr (.inr rfl) hword
 refine Ev.bind ((Read_ev (upper w ++ [42]) (by simp [hul]; omega)).is hrd2) ?_; refine Ev.bind ?_ (Ev.now _); refine Ev.pos rfl (Ev.pos rfl ?_); refine Ev.bind (b := (⟨1, 0, [ba w], []⟩ : T26)) ((Ev.now _).congr fun k => rfl) ?_; refine Ev.bind (SameAsk_refl 1 ⟨1, 0, [ba w], []⟩ ⟨by simp, by intro v hv; simp at hv; rw [hv, ba_size]; omega, by simp, by simp⟩) ?_; refine Ev.pos rfl (Ev.pos rfl ?_); exact Ev.bind (SameTexts_one (ba w)) (Ev.pos rfl aw)
end Go.Proofs.YtmgkpphbehamcaaGreatDoor.Pure
