/- The document's reader in plain words: the items of a text. -/
import Derived.Test.YtmgkpphbehamcaaGreatDoorPDoc4
namespace Go.Proofs.YtmgkpphbehamcaaGreatDoor.Pure
open Go Go.Gg Go.Gp Gf
set_option linter.unusedVariables false
set_option linter.unusedSimpArgs false
def openB (v : List UInt8) : Bool := decide (v.length < 2) || !(decide (v.getLast? = some 34))
def grp : Option (List UInt8) → List (List UInt8) → List (List UInt8) × Bool
 | none, [] => ([], true)
 | some _, [] => ([[34]], false)
 | none, x :: ws => if x.head? = some 34 ∧ openB x = true then grp (some x) ws else (x :: (grp none ws).1, (grp none ws).2)
 | some v, x :: ws => if openB (v ++ 32 :: x) = true then grp (some (v ++ 32 :: x)) ws else ((v ++ 32 :: x) :: (grp none ws).1, (grp none ws).2)
theorem getD_map (l : List (List UInt8)) (i : Nat) : (l.map ba).getD i (⟨#[]⟩ : ByteArray) = ba (l.getD i []) := by
 by_cases h : i < l.length
 ·rw [getD_eq _ _ (by simpa using h), getD_eq _ _ h, List.getElem_map]
 ·simp only [List.getD_eq_getElem?_getD, List.getElem?_map, List.getElem?_eq_none (Nat.le_of_not_lt h)]; rfl
theorem open_test {v : List UInt8} (hl : v.length ≤ 10000000) :
  (if ((ba v).size : Int) < 2 then some true else (if 0 ≤ (IntKind.i64.wrap (((ba v).size : Int) - 1)) ∧ (IntKind.i64.wrap (((ba v).size : Int) - 1)) < ((ba v).size : Int) then some ((bt (ba v) (IntKind.i64.wrap (((ba v).size : Int) - 1))) != 34) else none)) = some (openB v) := by
 rw [ba_size]; unfold openB; by_cases h : v.length < 2
 ·rw [if_pos (by omega), decide_eq_true h]; rfl
 ·have e1 : IntKind.i64.wrap ((v.length : Int) - 1) = ((v.length - 1 : Nat) : Int) := by rw [i64w (by omega)]; omega
  rw [if_neg (by omega), e1, if_pos (by omega), decide_eq_false h, bt_get (by omega), Bool.false_or]; have hg : v.getLast? = some (v.getD (v.length - 1) 0) := by
   rw [List.getLast?_eq_getElem?, getD_eq _ _ (by omega), List.getElem?_eq_getElem]
  rw [hg]
  congr 1
  by_cases e : v.getD (v.length - 1) 0 = 34
  ·rw [e]; rfl
  ·rw [decide_eq_false (by simpa using e), Bool.not_false, bne_iff_ne]; exact fun e2 => e ((nat_u8 (b := 34)).1 e2)
theorem items_l1_ev (ws : List (List UInt8)) (hl : ws.length ≤ 1000) (hw : ∀ w ∈ ws, w.length ≤ 1000) : ∀ (n i : Nat) (v : List UInt8), i + n = ws.length → i < ws.length → v.length ≤ 1001 * (i + 1) →
  (Ev (fun k => grapevineref14_items_l1 (ws.map ba) k (i : Int) (ba v)) (Sum.inl ([], false)) ∧ openB v = true ∧ (grp (some v) (ws.drop (i + 1))).2 = false) ∨
  ∃ i' v', Ev (fun k => grapevineref14_items_l1 (ws.map ba) k (i : Int) (ba v)) (Sum.inr (((i' : Nat) : Int), ba v')) ∧ i ≤ i' ∧ i' < ws.length ∧ openB v' = false ∧
   (openB v = false ∧ i' = i ∧ v' = v ∨ openB v = true ∧ grp (some v) (ws.drop (i + 1)) = (v' :: (grp none (ws.drop (i' + 1))).1, (grp none (ws.drop (i' + 1))).2))
 | 0, i, v, hi, h0, hv => by omega
 | n + 1, i, v, hi, h0, hv => by
  have e1 : IntKind.i64.wrap ((i : Int) + 1) = ((i + 1 : Nat) : Int) := by rw [i64w (by omega)]; omega
  have hlen : (ws.map ba).length = ws.length := List.length_map _
  cases ho : openB v with
  | false =>
   refine .inr ⟨i, v, Ev.step (fun k => by rw [grapevineref14_items_l1, open_test (by omega)]) (Ev.bind (Ev.now _) ?_), Nat.le_refl _, h0, ho, .inl ⟨rfl, rfl, rfl⟩⟩; rw [ho]; exact Ev.neg (by simp) (Ev.now _)
  | true =>
   by_cases hc : i + 1 < ws.length
   case neg =>
    refine .inl ⟨Ev.step (fun k => by rw [grapevineref14_items_l1, open_test (by omega)]) (Ev.bind (Ev.now _) ?_), rfl, ?_⟩
    ·rw [ho, e1]; exact Ev.pos rfl (Ev.pos (by rw [hlen]; omega) (Ev.now _))
    ·rw [List.drop_eq_nil_of_le (by omega)]; rfl
   have hx := hw _ (getD_mem ws [] hc); have hd : ws.drop (i + 1) = ws.getD (i + 1) [] :: ws.drop (i + 1 + 1) := drop_getD ws [] hc; have hstep : ∀ r, Ev (fun k => grapevineref14_items_l1 (ws.map ba) k ((i + 1 : Nat) : Int) (ba (v ++ 32 :: ws.getD (i + 1) []))) r → Ev (fun k => grapevineref14_items_l1 (ws.map ba) k (i : Int) (ba v)) r := fun r hr => by
    refine Ev.step (fun k => by rw [grapevineref14_items_l1, open_test (by omega)]) (Ev.bind (Ev.now _) ?_); rw [ho, e1]; have e3 : (ba v ++ (⟨#[32]⟩ : ByteArray)) = ba (v ++ [32]) := ba_app v [32]; have e4 : (ba v ++ (⟨#[32]⟩ : ByteArray)) ++ ((ws.map ba).getD (((i + 1 : Nat) : Int)).toNat (⟨#[]⟩ : ByteArray)) = ba (v ++ 32 :: ws.getD (i + 1) []) := by
     rw [e3, Int.toNat_natCast, getD_map, ba_app]; simp
    refine Ev.pos rfl (Ev.neg (by rw [hlen]; omega) (Ev.pos ?_ (Ev.pos (by rw [hlen]; omega) (Ev.pos ?_ ?_))))
    ·have : (⟨#[32]⟩ : ByteArray).size = 1 := rfl; rw [this, ba_size]; omega
    ·rw [e3, Int.toNat_natCast, getD_map, ba_size, ba_size, List.length_append, List.length_singleton]; omega
    ·rw [e4]; exact hr
   have ih := items_l1_ev ws hl hw n (i + 1) (v ++ 32 :: ws.getD (i + 1) []) (by omega) hc (by rw [List.length_append, List.length_cons]; omega); rw [hd]; rcases ih with ⟨h1, h2, h3⟩ | ⟨i', v', h1, h2, h3, h5, h4⟩
   ·refine .inl ⟨hstep _ h1, rfl, ?_⟩; rw [grp, if_pos h2]; exact h3
   ·refine .inr ⟨i', v', hstep _ h1, by omega, h3, h5, .inr ⟨rfl, ?_⟩⟩; rcases h4 with ⟨a, rfl, rfl⟩ | ⟨a, b⟩
    ·rw [grp, if_neg (by rw [a]; simp)]
    ·rw [grp, if_pos a]; exact b
theorem items_l0_ev (ws : List (List UInt8)) (hl : ws.length ≤ 1000) (hw : ∀ w ∈ ws, w.length ≤ 1000) : ∀ (n i : Nat) (acc : List ByteArray), i + n = ws.length → acc.length ≤ i →
  ∀ m, m ≤ n → ∀ j (acc' : List ByteArray), j + m = ws.length → acc'.length ≤ j →
  Ev (fun k => grapevineref14_items_l0 (ws.map ba) k acc' (j : Int)) (if (grp none (ws.drop j)).2 = true then Sum.inr (acc' ++ (grp none (ws.drop j)).1.map ba) else Sum.inl ([], false))
 | n, i, acc, hi, ha, 0, hm, j, acc', hj, haj => by
  obtain rfl : j = ws.length := by omega
  have hlen : (ws.map ba).length = ws.length := List.length_map _; rw [List.drop_length]; exact Ev.step (fun k => by rw [grapevineref14_items_l0]) (Ev.neg (by rw [hlen]; omega) ((Ev.now _).is (by simp [grp])))
 | 0, i, acc, hi, ha, m + 1, hm, j, acc', hj, haj => by omega
 | n + 1, i, acc, hi, ha, m + 1, hm, j, acc', hj, haj => by
  have hc : j < ws.length := by omega
  have hlen : (ws.map ba).length = ws.length := List.length_map _; have hx := hw _ (getD_mem ws [] hc); have hd : ws.drop j = ws.getD j [] :: ws.drop (j + 1) := drop_getD ws [] hc; have ih := items_l0_ev ws hl hw n (i + 1) (acc ++ [ba []]) (by omega) (by rw [List.length_append, List.length_singleton]; omega); have e1 : ∀ q : Nat, q < ws.length → IntKind.i64.wrap (((q : Nat) : Int) + 1) = ((q + 1 : Nat) : Int) := fun q hq => by rw [i64w (by omega)]; omega
  refine Ev.step (fun k => by rw [grapevineref14_items_l0]) (Ev.pos (by rw [hlen]; omega) (Ev.pos (by rw [hlen]; omega) (Ev.bind (Ev.now _) ?_))); rw [Int.toNat_natCast, getD_map, hd]; generalize ws.getD j [] = x at hx; have hs : (if ((ba x).size : Int) > 0 then (if 0 ≤ (0 : Int) ∧ (0 : Int) < ((ba x).size : Int) then some ((bt (ba x) 0) == 34) else none) else some false) = some (decide (x.head? = some 34)) := by
   rw [ba_size]
   cases x with
   | nil => rfl
   | cons b t =>
    rw [if_pos (by simp), if_pos (by simp)]; have h0 : bt (ba (b :: t)) 0 = ((b.toNat : Nat) : Int) := rfl; rw [h0]
    congr 1
    by_cases e : b = 34
    ·subst e; rfl
    ·rw [decide_eq_false (by simpa using e), beq_eq_false_iff_ne]; exact fun e2 => e ((nat_u8 (b := 34)).1 e2)
  rw [hs]; refine Ev.bind (Ev.now _) ?_; by_cases hh : x.head? = some 34
  ·rw [decide_eq_true hh]; refine Ev.pos rfl ?_; rcases items_l1_ev ws hl hw (m + 1) j x hj hc (by omega) with ⟨h1, h2, h3⟩ | ⟨i', v', h1, h2, h3, h5, h4⟩
   ·refine Ev.bind h1 ((Ev.now _).is ?_); have hg : grp none (x :: ws.drop (j + 1)) = grp (some x) (ws.drop (j + 1)) := by rw [grp, if_pos ⟨hh, h2⟩]
    rw [hg, h3]; simp
   ·refine Ev.bind h1 ?_
    dsimp only
    refine Ev.pos (by rw [List.length_singleton]; omega) ?_; rw [e1 _ h3]; refine (ih (ws.length - (i' + 1)) (by omega) (i' + 1) _ (by omega) (by rw [List.length_append, List.length_singleton]; omega)).is ?_; have hg : grp none (x :: ws.drop (j + 1)) = (v' :: (grp none (ws.drop (i' + 1))).1, (grp none (ws.drop (i' + 1))).2) := by
     rcases h4 with ⟨a, rfl, rfl⟩ | ⟨a, b⟩
     ·rw [grp, if_neg (by rw [a]; simp)]
     ·rw [grp, if_pos ⟨hh, a⟩]; exact b
    rw [hg]; simp
  ·rw [decide_eq_false hh]; refine Ev.neg (by simp) (Ev.pos (by rw [List.length_singleton]; omega) ?_); rw [e1 _ hc]; refine (ih m (by omega) (j + 1) _ (by omega) (by rw [List.length_append, List.length_singleton]; omega)).is ?_; have hg : grp none (x :: ws.drop (j + 1)) = (x :: (grp none (ws.drop (j + 1))).1, (grp none (ws.drop (j + 1))).2) := by rw [grp, if_neg (fun e => hh e.1)]
   rw [hg]; simp
theorem splitL_len (c : UInt8) : ∀ l : List UInt8, (splitL c l).length ≤ l.length + 1 ∧ ∀ w ∈ splitL c l, w.length ≤ l.length
 | [] => by simp [splitL]
 | b :: t => by
  obtain ⟨h1, h2⟩ := splitL_len c t; rw [splitL]
  split
  ·refine ⟨by simp only [List.length_cons]; omega, fun w hw => ?_⟩; rcases List.mem_cons.1 hw with rfl | hw
   ·simp
   ·have := h2 w hw; simp only [List.length_cons]; omega
  ·cases hs : splitL c t with
   | nil => exact absurd hs (splitL_ne c t)
   | cons u r =>
    rw [hs] at h1 h2; refine ⟨by simp only [List.length_cons] at h1 ⊢; omega, fun w hw => ?_⟩; rcases List.mem_cons.1 hw with rfl | hw
    ·have := h2 u (by simp); simp only [List.length_cons]; omega
    ·have := h2 w (by simp [hw]); simp only [List.length_cons]; omega
def itemsR (s : List UInt8) : List (List UInt8) × Bool := grp none (splitL 32 s)
theorem items_ev (s : List UInt8) (hs : s.length ≤ 900) : Ev (fun k => grapevineref14_items k (ba s)) (if (itemsR s).2 = true then ((itemsR s).1.map ba, true) else ([], false)) := by
 unfold grapevineref14_items itemsR; obtain ⟨h1, h2⟩ := splitL_len 32 s; have h := items_l0_ev (splitL 32 s) (by omega) (fun w hw => by have := h2 w hw; omega) (splitL 32 s).length 0 [] (by omega) (by simp) (splitL 32 s).length (Nat.le_refl _) 0 [] (by omega) (by simp); rw [List.drop_zero] at h; refine Ev.bind (rsplit_ev s 32 (by omega)) (Ev.bind h ?_)
 cases hg : (grp none (splitL 32 s)).2 with
 | true => exact Ev.now _
 | false => exact Ev.now _
end Go.Proofs.YtmgkpphbehamcaaGreatDoor.Pure
