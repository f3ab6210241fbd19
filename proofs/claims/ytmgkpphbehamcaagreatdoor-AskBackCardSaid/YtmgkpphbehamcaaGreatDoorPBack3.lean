/- What is written is read as it was: whole queries. -/
import Derived.Test.YtmgkpphbehamcaaGreatDoorPBack2
namespace Go.Proofs.YtmgkpphbehamcaaGreatDoor.Pure
open Go Go.Gg Go.Gp Gf
set_option linter.unusedVariables false
set_option linter.unusedSimpArgs false
theorem last_item {it : List UInt8} (h0 : it ≠ []) (h34 : it.head? ≠ some 34) (h32 : 32 ∉ it) : nextP (at_ it) = it ∧ takeP (at_ it) = ⟨[], true, false⟩ := by
 have hn : nextP (at_ it) = it := by
  unfold nextP; rw [if_neg (by simp)]; unfold itemL; rw [if_neg (fun e => h34 e.1)]; exact takeWhile_self _ _ fun x hx => by simp only [bne_iff_ne, ne_eq]; exact fun e => h32 (e ▸ hx)
 refine ⟨hn, ?_⟩; unfold takeP; rw [hn, if_neg h0, if_pos rfl]
theorem numsL_itoa : ∀ (ns : List Int), (∀ n ∈ ns, 0 ≤ n ∧ n < 10000000000000) → numsL (ns.map fun n => ba (Lib.itoa n)) = some ns
 | [], _ => rfl
 | n :: t, h => by
  rw [List.map_cons, numsL]; have e : (ba (Lib.itoa n)).data.toList = Lib.itoa n := rfl; rw [e, numL_itoa (h n (by simp)).1 (h n (by simp)).2]
  dsimp only
  rw [numsL_itoa t (fun m hm => h m (by simp [hm]))]; rfl
def J4 (q : T34) : List UInt8 := Lib.join [Lib.itoa q.f7, Lib.itoa q.f8, Lib.itoa q.f5, Lib.itoa q.f6] [46]
theorem after_read {q q0 : T34} (h5 : 0 ≤ q.f5 ∧ q.f5 < 8) (h6 : 0 ≤ q.f6 ∧ q.f6 ≤ 1023) (h7 : 0 ≤ q.f7 ∧ q.f7 ≤ 1099511627776) (h8 : 0 ≤ q.f8 ∧ q.f8 ≤ 65535) (hp : q.f6 > 0) :
  afterP (at_ (AFTER ++ J4 q)) q0 = (⟨[], true, false⟩, ⟨q0.f0, q0.f1, q0.f2, q0.f3, q0.f4, q.f5, q.f6, q.f7, q.f8, q0.f9⟩) := by
 have hno : ∀ {c : UInt8}, digs.contains c = false → c ≠ 46 → c ∉ AFTER → c ∉ AFTER ++ J4 q := fun h1 h2 h3 h => by
  rcases List.mem_append.1 h with h | h
  ·exact h3 h
  ·refine join_no (by simpa using h2) (fun w hw => ?_) h; simp only [List.mem_cons, List.not_mem_nil, or_false] at hw; rcases hw with rfl | rfl | rfl | rfl
   ·exact itoa_no h7.1 h1
   ·exact itoa_no h8.1 h1
   ·exact itoa_no h5.1 h1
   ·exact itoa_no h6.1 h1
 obtain ⟨n1, n2⟩ := last_item (it := AFTER ++ J4 q) (by simp [AFTER]) (head_no (hno (by decide) (by decide) (by decide))) (hno (by decide) (by decide) (by decide)); unfold afterP; rw [n1, if_pos (by simp [Lib.hasPrefix])]; have hd : (AFTER ++ J4 q).drop 6 = J4 q := rfl; have hsp : splitW 46 (J4 q) = ([q.f7, q.f8, q.f5, q.f6]).map fun n => ba (Lib.itoa n) := by
  unfold J4; rw [splitW_eq, split_join (by simp) (fun w hw => by
   simp only [List.mem_cons, List.not_mem_nil, or_false] at hw; rcases hw with rfl | rfl | rfl | rfl
   ·exact itoa_no h7.1 (by decide)
   ·exact itoa_no h8.1 (by decide)
   ·exact itoa_no h5.1 (by decide)
   ·exact itoa_no h6.1 (by decide))]
  rfl
 rw [hd, hsp, numsL_itoa _ (fun n hn => by
  simp only [List.mem_cons, List.not_mem_nil, or_false] at hn; rcases hn with rfl | rfl | rfl | rfl
  ·omega
  ·omega
  ·omega
  ·omega)]
 dsimp only
 have hc : ¬ (([q.f7, q.f8, q.f5, q.f6] : List Int).length ≠ 4 ∨ ([q.f7, q.f8, q.f5, q.f6] : List Int).getD 3 0 = 0) := by
  rintro (h | h)
  ·exact h rfl
  ·have : q.f6 = 0 := h; omega
 rw [if_neg hc, n2]; rfl
theorem limit_read {L : Int} (hL : 1 ≤ L ∧ L ≤ 50) (q0 : T34) : endP (at_ (LIMIT ++ Lib.itoa L)) q0 = (⟨[], true, false⟩, setLimit q0 L) := by
 have hno : ∀ {c : UInt8}, digs.contains c = false → c ∉ LIMIT → c ∉ LIMIT ++ Lib.itoa L := fun h1 h3 h => (List.mem_append.1 h).elim h3 (itoa_no (by omega) h1)
 obtain ⟨n1, n2⟩ := last_item (it := LIMIT ++ Lib.itoa L) (by simp [LIMIT]) (head_no (hno (by decide) (by decide))) (hno (by decide) (by decide)); unfold endP; rw [n1, tell_word (numL_itoa (by omega) (by omega)), n2]; rfl
theorem limit_more {L : Int} (hL : 1 ≤ L ∧ L ≤ 50) (r : List UInt8) (q0 : T34) : endP (at_ ((LIMIT ++ Lib.itoa L) ++ 32 :: r)) q0 = afterP (at_ r) (setLimit q0 L) := by
 have hno : ∀ {c : UInt8}, digs.contains c = false → c ∉ LIMIT → c ∉ LIMIT ++ Lib.itoa L := fun h1 h3 h => (List.mem_append.1 h).elim h3 (itoa_no (by omega) h1)
 have hi : Item (LIMIT ++ Lib.itoa L) := item_no (by simp [LIMIT]) (head_no (hno (by decide) (by decide))) (hno (by decide) (by decide)); unfold endP; rw [(hi r).1, tell_word (numL_itoa (by omega) (by omega)), (hi r).2]
theorem limit_next {L : Int} (hL : 1 ≤ L ∧ L ≤ 50) : (∀ r, nextP (at_ ((LIMIT ++ Lib.itoa L) ++ 32 :: r)) = LIMIT ++ Lib.itoa L) ∧ nextP (at_ (LIMIT ++ Lib.itoa L)) = LIMIT ++ Lib.itoa L := by
 have hno : ∀ {c : UInt8}, digs.contains c = false → c ∉ LIMIT → c ∉ LIMIT ++ Lib.itoa L := fun h1 h3 h => (List.mem_append.1 h).elim h3 (itoa_no (by omega) h1)
 have hi : Item (LIMIT ++ Lib.itoa L) := item_no (by simp [LIMIT]) (head_no (hno (by decide) (by decide))) (hno (by decide) (by decide)); exact ⟨fun r => (hi r).1, (last_item (by simp [LIMIT]) (head_no (hno (by decide) (by decide))) (hno (by decide) (by decide))).1⟩
theorem read_write {d : Nat} (hd : d ≤ 700) {q : T34} (hs : SmallN d (askOf q)) (hm : mayQB d q = true) (hl : (writeL d q).length ≤ 200) : readP (writeL d q) = (q, 0) := by
 obtain ⟨m1, m2, m3⟩ := mayQ_parts hm; have hr := aft_range m3; have hb := back d (askOf q) (may_good m1); have hlim := limit_next m2; have hne : ∀ l : List UInt8, LIMIT ++ l ≠ AND ∧ LIMIT ++ l ≠ OR := fun l => ⟨fun e => (by cases e), fun e => (by cases e)⟩
 have h9 : q.f9 = ⟨#[]⟩ := by
  unfold aftB at m3; rw [Bool.or_eq_true] at m3; rcases m3 with h | h
  ·have := of_decide_eq_true h; unfold aft at this; injection this
  ·rw [Bool.and_eq_true] at h; exact of_decide_eq_true h.1
 have hqe : (⟨(askOf q).f0, (askOf q).f1, (askOf q).f2, (askOf q).f3, q.f4, q.f5, q.f6, q.f7, q.f8, ⟨#[]⟩⟩ : T34) = q := by
  obtain ⟨a, b, c, e, f, g, h, i, j, k⟩ := q; simp only [askOf] at h9 ⊢; rw [h9]
 -- the run
 have key : ∀ R : List UInt8, writeL d q = wrN d (askOf q) ++ 32 :: R → (nextP (at_ R) ≠ AND ∧ nextP (at_ R) ≠ OR) → runP (writeL d q) = (askOf q, at_ R) := fun R hR hn => by
  unfold runP; rw [hR]; exact hb.2.2 _ (by simp only [List.length_append, List.length_cons]; omega) R hn.1 hn.2
 have hrd : rdP (writeL d q) = (⟨[], true, false⟩, q) := by
  by_cases hp : q.f6 > 0
  ·have hR : writeL d q = wrN d (askOf q) ++ 32 :: ((LIMIT ++ Lib.itoa q.f4) ++ 32 :: (AFTER ++ J4 q)) := by
    unfold writeL aftT; rw [if_pos hp]; simp [LIM, LIMIT, AFTER, J4]
   have hrun := key _ hR (by rw [hlim.1]; exact hne _); unfold rdP; rw [hrun]; show endP (at_ _) _ = _; rw [limit_more m2, after_read hr.1 hr.2.1 hr.2.2.1 hr.2.2.2 hp]; exact congrArg (fun z => ((⟨[], true, false⟩ : PS), z)) hqe
  ·have hR : writeL d q = wrN d (askOf q) ++ 32 :: (LIMIT ++ Lib.itoa q.f4) := by
    unfold writeL aftT; rw [if_neg hp]; simp [LIM, LIMIT]
   have hrun := key _ hR (by rw [hlim.2]; exact hne _); have hz : q.f5 = 0 ∧ q.f6 = 0 ∧ q.f7 = 0 ∧ q.f8 = 0 := by
    unfold aftB at m3; rw [Bool.or_eq_true] at m3; rcases m3 with h | h
    ·have := of_decide_eq_true h; unfold aft at this; injection this with a b c e f
     exact ⟨a, b, c, e⟩
    ·rw [Bool.and_eq_true] at h; have h2 := h.2; unfold recB aft at h2; rw [Bool.and_eq_true] at h2; have := of_decide_eq_true h2.1
     dsimp only at this
     omega
   unfold rdP; rw [hrun]; show endP (at_ _) _ = _; rw [limit_read m2]; refine congrArg (fun z => ((⟨[], true, false⟩ : PS), z)) (Eq.trans ?_ hqe); rw [hz.1, hz.2.1, hz.2.2.1, hz.2.2.2]; rfl
 have hok : okP (writeL d q) = true := by
  unfold okP; rw [hrd, decide_eq_true hl]; have e : mayQB 700 q = mayQB d q := by
   unfold mayQB; have := may_ups hs (700 - d); rw [show d + (700 - d) = 700 by omega] at this; rw [this]
  rw [e, hm]; rfl
 unfold readP; rw [if_pos hok, hrd]
end Go.Proofs.YtmgkpphbehamcaaGreatDoor.Pure
