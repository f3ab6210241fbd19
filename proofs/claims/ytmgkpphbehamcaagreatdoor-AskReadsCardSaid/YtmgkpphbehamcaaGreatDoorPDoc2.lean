/- The document's queries: which may be; texts parted at a sign. -/
import Derived.Test.YtmgkpphbehamcaaGreatDoorPDoc1
namespace Go.Proofs.YtmgkpphbehamcaaGreatDoor.Pure
open Go Go.Gg Go.Gp Gf
set_option linter.unusedVariables false
set_option linter.unusedSimpArgs false
theorem rafter_eq (X : Bool) (a b c e : Int) : (((grapevineref4_MayKey (⟨a, b⟩ : T28)).bind fun t4 => (if t4 = true then ((grapevineref2_May (⟨c, e⟩ : T30)).bind fun t9 => (if t9 = true then some X else some false)) else some false)) : Option Bool) =
  some (decide (0 ≤ a ∧ a < 8 ∧ 1 ≤ b ∧ b ≤ 1023 ∧ 0 ≤ c ∧ c ≤ 1099511627776 ∧ 0 ≤ e ∧ e ≤ 65535) && X) := by
 unfold grapevineref4_MayKey grapevineref2_May grapevineref2_in; by_cases h : 0 ≤ a ∧ a < 8 ∧ 1 ≤ b ∧ b ≤ 1023 ∧ 0 ≤ c ∧ c ≤ 1099511627776 ∧ 0 ≤ e ∧ e ≤ 65535
 ·obtain ⟨h1, h2, h3, h4, h5, h6, h7, h8⟩ := h; simp [h1, h2, h3, h4, h5, h6, h7, h8]
 ·rw [decide_eq_false h]; simp only [Bool.false_and]; by_cases h1 : a ≥ 0
  ·by_cases h2 : a < 8
   ·by_cases h3 : b ≥ 1
    ·by_cases h4 : b ≤ 1023
     ·by_cases h5 : c ≥ 0
      ·by_cases h6 : c ≤ 1099511627776
       ·by_cases h7 : e ≥ 0
        ·have h8 : ¬ e ≤ 65535 := by omega
         simp [h1, h2, h3, h4, h5, h6, h7, h8]
        ·simp [h1, h2, h3, h4, h5, h6, h7]
       ·simp [h1, h2, h3, h4, h5, h6]
      ·simp [h1, h2, h3, h4, h5]
     ·simp [h1, h2, h3, h4]
    ·simp [h1, h2, h3]
   ·simp [h1, h2]
  ·simp [h1]
theorem rMayQuery_ev {d : Nat} (hd : d < 1000) {q : T34} (hs : SmallN d (askOf q)) (hc : cntN d (askOf q) ≤ 1000) : Ev (fun k => grapevineref14_MayQuery k q) (mayQB d q) := by
 unfold grapevineref14_MayQuery mayQB; obtain ⟨S, hS⟩ : ∃ S, S = (decide (0 ≤ q.f5 ∧ q.f5 < 8 ∧ 1 ≤ q.f6 ∧ q.f6 ≤ 1023 ∧ 0 ≤ q.f7 ∧ q.f7 ≤ 1099511627776 ∧ 0 ≤ q.f8 ∧ q.f8 ≤ 65535) && (q.f9.toList == (⟨#[]⟩ : ByteArray).toList)) := ⟨_, rfl⟩; rw [rafter_eq, ← hS]; refine Ev.bind (b := S) (Ev.now S) ?_; refine Ev.bind (b := mayB d (askOf q) && (decide (1 ≤ q.f4 ∧ q.f4 ≤ 50) && aftB q)) (Ev.bind (b := mayB d (askOf q)) (rAskMay_ev hd hs hc) ?_) (Ev.now _)
 cases hm : mayB d (askOf q) with
 | false => exact Ev.neg Bool.false_ne_true ((Ev.now _).is (by simp))
 | true =>
  refine Ev.pos rfl ?_; simp only [Bool.true_and]; by_cases c1 : q.f4 ≥ 1
  ·refine Ev.pos c1 ?_; by_cases c2 : q.f4 ≤ 50
   ·refine Ev.pos c2 ?_; rw [decide_eq_true (p := 1 ≤ q.f4 ∧ q.f4 ≤ 50) ⟨c1, c2⟩]; by_cases c3 : (⟨q.f5, q.f6, q.f7, q.f8, q.f9⟩ : T32) = ⟨0, 0, 0, 0, ⟨#[]⟩⟩
    ·refine Ev.pos c3 ((Ev.now _).is ?_); unfold aftB; rw [decide_eq_true (show aft q = ⟨0, 0, 0, 0, ⟨#[]⟩⟩ from c3)]; rfl
    ·refine Ev.neg c3 ((Ev.now _).is ?_); unfold aftB; rw [decide_eq_false (show ¬ aft q = ⟨0, 0, 0, 0, ⟨#[]⟩⟩ from c3), hS]; simp only [Bool.true_and, Bool.false_or]
     cases h9 : (q.f9.toList == (⟨#[]⟩ : ByteArray).toList) with
     | false =>
      have n9 : ¬ q.f9 = (⟨#[]⟩ : ByteArray) := by rw [toList_beq] at h9; exact of_decide_eq_false h9
      rw [decide_eq_false n9]; simp
     | true =>
      have e9 : q.f9 = ⟨#[]⟩ := by rw [toList_beq] at h9; exact of_decide_eq_true h9
      have : recB (aft q) = decide (0 ≤ q.f5 ∧ q.f5 < 8 ∧ 1 ≤ q.f6 ∧ q.f6 ≤ 1023 ∧ 0 ≤ q.f7 ∧ q.f7 ≤ 1099511627776 ∧ 0 ≤ q.f8 ∧ q.f8 ≤ 65535) := by
       unfold recB; have ef : (aft q).f4 = ⟨#[]⟩ := e9; rw [ef]; have e1 : decide ((⟨#[]⟩ : ByteArray).size ≤ 120) = true := rfl; have e2 : Lib.validD (⟨#[]⟩ : ByteArray).data.toList = true := by decide +kernel
       rw [e1, e2]; simp only [Bool.and_true]; rfl
      rw [this, decide_eq_true e9]; simp
   ·refine Ev.neg c2 ((Ev.now _).is ?_); rw [decide_eq_false (by omega)]; rfl
  ·refine Ev.neg c1 ((Ev.now _).is ?_); rw [decide_eq_false (by omega)]; rfl
def splitL (c : UInt8) : List UInt8 → List (List UInt8)
 | [] => [[]]
 | b :: t => if b = c then [] :: splitL c t else match splitL c t with
  | [] => [[b]]
  | h :: r => (b :: h) :: r
theorem splitL_ne (c : UInt8) : ∀ l, splitL c l ≠ []
 | [] => by simp [splitL]
 | b :: t => by
  rw [splitL]
  split
  ·simp
  ·split <;> simp
theorem splitK_eq (c : UInt8) : ∀ l : List UInt8, Lib.splitK [c] 0 (l.count c) l = splitL c l
 | [] => rfl
 | b :: t => by
  have ih := splitK_eq c t; rw [splitL]; by_cases h : b = c
  ·subst h; rw [if_pos rfl, List.count_cons_self, Lib.splitK]; have hi : Lib.index (b :: t) [b] = 0 := by rw [Lib.index]; simp [List.isPrefixOf]
   rw [hi, if_neg (by decide)]; simp [ih]
  ·rw [if_neg h, List.count_cons_of_ne (fun e => h e)]
   cases hk : t.count c with
   | zero =>
    rw [hk, Lib.splitK] at ih; rw [← ih, Lib.splitK]
   | succ k =>
    rw [hk] at ih; have hm : c ∈ t := List.count_pos_iff.1 (by omega); have hi : Lib.index t [c] = ((t.takeWhile (· != c)).length : Int) := by rw [index_one, indexByte_eq, if_pos hm]
    have hi2 : Lib.index (b :: t) [c] = ((t.takeWhile (· != c)).length : Int) + 1 := by
     rw [index_one, indexByte_eq, if_pos (List.mem_cons_of_mem _ hm)]; simp [List.takeWhile_cons, h]
    generalize (t.takeWhile (· != c)).length = j at hi hi2; rw [Lib.splitK, hi, if_neg (by rw [beq_iff_eq]; omega)] at ih; rw [← ih, Lib.splitK, hi2, if_neg (by rw [beq_iff_eq]; omega)]; have e1 : ((j : Int) + 1).toNat = j + 1 := by omega
    have e2 : (j : Int).toNat = j := by omega
    rw [e1, e2]; simp only [Nat.add_zero, List.take_succ_cons, List.length_singleton, List.drop_succ_cons]
theorem splitW_eq (c : UInt8) (l : List UInt8) : splitW c l = (splitL c l).map ba := by
 unfold splitW; have h := Lib.splitB_data (ba [c]) 0 (Lib.countB (ba l) (ba [c])) (ba l); have hc : Lib.countB (ba l) (ba [c]) = l.count c := Lib.count_one c l; rw [hc] at h ⊢; have h2 : (Lib.splitB (ba [c]) 0 (l.count c) (ba l)).map (fun x => x.data.toList) = splitL c l := h.trans (splitK_eq c l); rw [← h2, List.map_map]; exact (List.map_id' _).symm
theorem splitL_mem {c b : UInt8} (hb : b ≠ c) : ∀ l : List UInt8, b ∈ l → ∃ w ∈ splitL c l, b ∈ w
 | [], h => by cases h
 | x :: t, h => by
  rw [splitL]; by_cases hx : x = c
  ·rw [if_pos hx]; have ht : b ∈ t := by
    rcases List.mem_cons.1 h with h | h
    ·exact absurd (h.trans hx) hb
    ·exact h
   obtain ⟨w, hw, hm⟩ := splitL_mem hb t ht; exact ⟨w, List.mem_cons_of_mem _ hw, hm⟩
  ·rw [if_neg hx]
   cases hs : splitL c t with
   | nil => exact absurd hs (splitL_ne c t)
   | cons u r =>
    dsimp only
    rcases List.mem_cons.1 h with h | h
    ·exact ⟨x :: u, List.mem_cons_self, by rw [h]; exact List.mem_cons_self⟩
    ·obtain ⟨w, hw, hm⟩ := splitL_mem hb t h; rw [hs] at hw; rcases List.mem_cons.1 hw with rfl | hw
     ·exact ⟨x :: w, List.mem_cons_self, List.mem_cons_of_mem _ hm⟩
     ·exact ⟨w, List.mem_cons_of_mem _ hw, hm⟩
theorem enc_byte {b : UInt8} (hb : b.toNat < 128) {r : Int} (hr : Sc r) (h : b ∈ Lib.encodeRune r) : r = (b.toNat : Int) := by
 unfold Lib.encodeRune at h; obtain ⟨x, hx, he⟩ := List.mem_map.1 h; have hn : ∀ y : Int, 128 ≤ y → y < 256 → y.toNat.toUInt8 = b → False := by
  intro y h1 h2 e; have h3 := toBn y (by omega) h2; rw [e] at h3; omega
 unfold Lib.encodeRuneZ at hx; unfold Sc at hr
 split at hx
 ·rename_i h0
  simp at hx; subst hx; have h3 := toBn x (by omega) (by omega); rw [he] at h3; omega
 ·split at hx
  ·simp at hx; rcases hx with rfl | rfl
   ·exact (hn _ (by omega) (by omega) he).elim
   ·exact (hn _ (by omega) (by omega) he).elim
  ·split at hx
   ·simp at hx; rcases hx with rfl | rfl | rfl
    ·exact (hn _ (by omega) (by omega) he).elim
    ·exact (hn _ (by omega) (by omega) he).elim
    ·exact (hn _ (by omega) (by omega) he).elim
   ·split at hx
    ·simp at hx; rcases hx with rfl | rfl | rfl | rfl
     ·exact (hn _ (by omega) (by omega) he).elim
     ·exact (hn _ (by omega) (by omega) he).elim
     ·exact (hn _ (by omega) (by omega) he).elim
     ·exact (hn _ (by omega) (by omega) he).elim
    ·omega
theorem one_no {b : UInt8} (hb : b.toNat < 128) (ho : oth (b.toNat : Int) = true) {w : List UInt8} (h : oneD (ba w) = true) : b ∉ w := by
 intro hm; unfold oneD at h; rw [Bool.and_eq_true, Bool.and_eq_true] at h; obtain ⟨h1, _, h3⟩ := h; obtain ⟨rs, hr, he⟩ := valid_bs h1; rw [he, runesOf_bs rs hr] at h3; have hw : w = enc rs := by have := congrArg (fun z => z.data.toList) he; rw [bs_toList] at this; exact this
 rw [hw] at hm; unfold enc at hm; obtain ⟨r, hrm, hbr⟩ := List.mem_flatMap.1 hm; have := enc_byte hb (hr r hrm) hbr; have h4 := List.all_eq_true.1 h3 r hrm; rw [this, ho] at h4
 cases h4
end Go.Proofs.YtmgkpphbehamcaaGreatDoor.Pure
