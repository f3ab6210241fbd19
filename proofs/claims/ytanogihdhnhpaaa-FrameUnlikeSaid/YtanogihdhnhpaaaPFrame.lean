/- What frames are, in plain words: what is laid, and what is found from a place on. -/
import Derived.Test.YtanogihdhnhpaaaPBytes
namespace Go.Proofs.Ytanogihdhnhpaaa.Pure
open Go Go.Gg Go.Gp Gf
set_option linter.unusedVariables false

def headOf (kind n : Int) : List Int := [71, kind % 256, n / 256 % 256, n % 256]
def seal8 (l : List Int) : List Int := l ++ be8 (fnv fnv0 l)
def frameOf (kind : Int) (body : List Int) : List Int := seal8 (headOf kind (body.length : Int) ++ body)
theorem len_seal8 (l : List Int) : (seal8 l).length = l.length + 8 := by simp [seal8, len_be8]
theorem len_frameOf (kind : Int) (body : List Int) : (frameOf kind body).length = body.length + 12 := by simp [frameOf, len_seal8, headOf]
theorem headOf_bytes (kind n : Int) : Bytes (headOf kind n) := by
  intro x hx
  simp only [headOf, List.mem_cons, List.not_mem_nil, or_false] at hx
  rcases hx with rfl | rfl | rfl | rfl <;> omega
theorem frameOf_bytes (kind : Int) {body : List Int} (hb : Bytes body) : Bytes (frameOf kind body) := ((headOf_bytes _ _).app hb).app (be8_bytes _)
theorem fnv_range (l : List Int) : 0 ≤ fnv fnv0 l ∧ fnv fnv0 l < 18446744073709551616 := by
  have : ∀ (l : List Int) (h : Int), (0 ≤ h ∧ h < 18446744073709551616) → 0 ≤ fnv h l ∧ fnv h l < 18446744073709551616 := by
    intro l
    induction l with
    | nil => intro h hh; exact hh
    | cons x l ih => intro h _; exact ih _ (fnvS_range _ _)
  exact this l fnv0 (by decide)

theorem seal_l0_ev (d : Int) (b : List Int) (hb : b.length + 8 ≤ 1073741824) : Ev (fun k => frame_seal_l0 d k b 56) (b ++ be8 d) := by
  have one : ∀ (c : List Int) (p q : Int) (r : List Int) (_ : 0 ≤ p) (_ : p ≤ 56) (_ : q = p - 8) (_ : c.length < 1073741824), Ev (fun k => frame_seal_l0 d k (c ++ [IntKind.u8.wrap (shrK .u64 d p)]) q) r → Ev (fun k => frame_seal_l0 d k c p) r := by
    intro c p q r h0 h1 hq hc H
    refine Ev.step (fun k => by rw [frame_seal_l0]) ?_
    refine Ev.pos h0 (Ev.pos h0 (Ev.pos (by simp; omega) ?_))
    rw [i64w (by omega), ← hq]
    exact H
  refine one b 56 48 _ (by omega) (by omega) (by omega) (by omega) ?_
  refine one _ 48 40 _ (by omega) (by omega) (by omega) (by simp; omega) ?_
  refine one _ 40 32 _ (by omega) (by omega) (by omega) (by simp; omega) ?_
  refine one _ 32 24 _ (by omega) (by omega) (by omega) (by simp; omega) ?_
  refine one _ 24 16 _ (by omega) (by omega) (by omega) (by simp; omega) ?_
  refine one _ 16 8 _ (by omega) (by omega) (by omega) (by simp; omega) ?_
  refine one _ 8 0 _ (by omega) (by omega) (by omega) (by simp; omega) ?_
  refine one _ 0 (-8) _ (by omega) (by omega) (by omega) (by simp; omega) ?_
  refine Ev.step (fun k => by rw [frame_seal_l0]) ?_
  refine Ev.neg (by omega) ?_
  simpa [be8] using Ev.now _

theorem frame_seal_ev (l : List Int) (hl : l.length + 8 ≤ 1073741824) : Ev (fun k => frame_seal k l) (seal8 l) := by
  unfold frame_seal
  refine Ev.bind (digest_Of_ev [l] (by simp [Short, maxLen]) (by simp [Short, maxLen]; omega)) ?_
  exact Ev.bind (seal_l0_ev _ l hl) ((Ev.now _).is (by simp [seal8]))

theorem rseal_l0_ev (d : Int) : Ev (fun k => grapevineref6_seal_l0 d k [] 7) (be8 d) := by
  have one : ∀ (c : List Int) (p q s : Int) (r : List Int) (_ : 0 ≤ p) (_ : p ≤ 7) (_ : q = p - 1) (_ : s = 8 * p) (_ : c.length < 1073741824), Ev (fun k => grapevineref6_seal_l0 d k (c ++ [IntKind.u8.wrap (shrK .u64 d s)]) q) r → Ev (fun k => grapevineref6_seal_l0 d k c p) r := by
    intro c p q s r h0 h1 hq hs hc H
    refine Ev.step (fun k => by rw [grapevineref6_seal_l0, i64w (x := 8 * p) (by omega), i64w (x := p - 1) (by omega), ← hs]) ?_
    refine Ev.pos h0 (Ev.pos (by omega) (Ev.pos (by simp; omega) ?_))
    rw [← hq]
    exact H
  refine one [] 7 6 56 _ (by omega) (by omega) (by omega) (by omega) (by simp) ?_
  refine one _ 6 5 48 _ (by omega) (by omega) (by omega) (by omega) (by simp) ?_
  refine one _ 5 4 40 _ (by omega) (by omega) (by omega) (by omega) (by simp) ?_
  refine one _ 4 3 32 _ (by omega) (by omega) (by omega) (by omega) (by simp) ?_
  refine one _ 3 2 24 _ (by omega) (by omega) (by omega) (by omega) (by simp) ?_
  refine one _ 2 1 16 _ (by omega) (by omega) (by omega) (by omega) (by simp) ?_
  refine one _ 1 0 8 _ (by omega) (by omega) (by omega) (by omega) (by simp) ?_
  refine one _ 0 (-1) 0 _ (by omega) (by omega) (by omega) (by omega) (by simp) ?_
  refine Ev.step (fun k => by rw [grapevineref6_seal_l0]) ?_
  refine Ev.neg (by omega) ?_
  simpa [be8] using Ev.now _
theorem rseal_ev (l : List Int) (hl : Short l) : Ev (fun k => grapevineref6_seal k l) (be8 (fnv fnv0 l)) := by
  unfold grapevineref6_seal grapevineref5_One
  refine Ev.bind (Ev.bind (grapevineref5_Of_ev [l] (by simp [Short, maxLen]) (by simpa using hl)) (Ev.now _)) ?_
  exact Ev.bind (rseal_l0_ev _) ((Ev.now _).is (by simp))

def layS (kind : Int) (body : List Int) : List Int × Int := if kind < 1 ∨ kind > 255 ∨ (body.length : Int) > 65535 then ([], 2) else (frameOf kind body, 0)

theorem shrI (x : Int) (n : Nat) (h : n ≤ 64) (hx : 0 ≤ x) : shrK .i64 x (n : Int) = x / 2 ^ n := by
  unfold shrK
  rw [show min ((n : Int)).toNat IntKind.i64.bits = n by simp [IntKind.bits]; omega]
  exact Int.fdiv_eq_ediv_of_nonneg _ (by exact_mod_cast Nat.zero_le _)

theorem frame_Lay_ev (kind : Int) (body : List Int) : Ev (fun k => frame_Lay k kind body) (layS kind body) := by
  unfold frame_Lay layS
  refine Ev.bind (b := decide (kind < 1 ∨ kind > 255 ∨ (body.length : Int) > 65535)) ?_ ?_
  · refine Ev.ite (fun h => (Ev.now _).is (by simp [h])) (fun h => ?_)
    refine Ev.ite (fun h' => (Ev.now _).is (by simp [h'])) (fun h' => (Ev.now _).is (by simp [h, h']))
  · refine Ev.ite (fun h => ?_) (fun h => ?_)
    · rw [if_pos (by simpa using h)]; exact Ev.now _
    · have h : ¬ (kind < 1 ∨ kind > 255 ∨ (body.length : Int) > 65535) := by simpa using h
      rw [if_neg h]
      have e8 : shrK .i64 (body.length : Int) 8 = (body.length : Int) / 256 := shrI _ 8 (by omega) (by omega)
      have e : [71, IntKind.u8.wrap kind, IntKind.u8.wrap (shrK .i64 (body.length : Int) 8), IntKind.u8.wrap (body.length : Int)] = headOf kind (body.length : Int) := by
        simp only [headOf, wrap_u8, e8]
      simp only [e]
      refine Ev.pos (by simp [headOf]; omega) ?_
      refine Ev.name fun v hv => ?_
      subst hv
      exact Ev.bind (frame_seal_ev _ (by simp [headOf]; omega)) (Ev.now _)

theorem rLay_ev (kind : Int) (body : List Int) (hs : Short body) : Ev (fun k => grapevineref6_Lay k kind body) (layS kind body) := by
  unfold grapevineref6_Lay layS
  refine Ev.bind (b := decide (kind < 1 ∨ kind > 255 ∨ (body.length : Int) > 65535)) ?_ ?_
  · refine Ev.ite (fun h => (Ev.now _).is (by simp [h])) (fun h => ?_)
    refine Ev.ite (fun h' => (Ev.now _).is (by simp [h'])) (fun h' => (Ev.now _).is (by simp [h, h']))
  · refine Ev.ite (fun h => ?_) (fun h => ?_)
    · rw [if_pos (by simpa using h)]; exact Ev.now _
    · have h : ¬ (kind < 1 ∨ kind > 255 ∨ (body.length : Int) > 65535) := by simpa using h
      rw [if_neg h]
      have e8 : shrK .i64 (body.length : Int) 8 = (body.length : Int) / 256 := shrI _ 8 (by omega) (by omega)
      have e0 : shrK .i64 (body.length : Int) 0 = (body.length : Int) := by have := shrI (body.length : Int) 0 (by omega) (by omega); simpa using this
      have hN : Ev (fun k => grapevineref4_Num k [71, IntKind.u8.wrap kind] (body.length : Int) 2) (headOf kind (body.length : Int)) := by
        unfold grapevineref4_Num
        refine Ev.bind (b := headOf kind (body.length : Int)) ?_ (Ev.now _)
        rw [i64w (x := 2 - 1) (by omega), show (2 : Int) - 1 = 1 by omega]
        refine Ev.step (fun k => by rw [grapevineref4_Num_l0]) ?_
        rw [i64w (x := 8 * 1) (by omega), i64w (x := 1 - 1) (by omega), show (8 : Int) * 1 = 8 by omega, show (1 : Int) - 1 = 0 by omega]
        refine Ev.pos (by omega) (Ev.pos (by omega) (Ev.pos (by simp) ?_))
        refine Ev.step (fun k => by rw [grapevineref4_Num_l0]) ?_
        rw [i64w (x := 8 * 0) (by omega), i64w (x := 0 - 1) (by omega), show (8 : Int) * 0 = 0 by omega, show (0 : Int) - 1 = -1 by omega]
        refine Ev.pos (by omega) (Ev.pos (by omega) (Ev.pos (by simp) ?_))
        refine Ev.step (fun k => by rw [grapevineref4_Num_l0]) ?_
        refine Ev.neg (by omega) ?_
        exact (Ev.now _).is (by simp [headOf, wrap_u8, e8, e0])
      refine Ev.bind hN ?_
      refine Ev.pos (by simp [headOf]; omega) ?_
      refine Ev.bind (rseal_ev _ (by simp [Short, maxLen, headOf]; omega)) ?_
      exact Ev.pos (by simp [headOf, len_be8]; omega) (Ev.now _)

/-! ## What is found -/
def nextAt (x : List Int) : Option (Int × List Int × Nat) :=
  if x.length < 12 then none
  else if x.getD 0 0 = 71 ∧ ¬ x.getD 1 0 = 0 ∧ (x.getD 2 0 * 256 + x.getD 3 0).toNat + 12 ≤ x.length then
    if be8 (fnv fnv0 (x.take ((x.getD 2 0 * 256 + x.getD 3 0).toNat + 4))) = (x.drop ((x.getD 2 0 * 256 + x.getD 3 0).toNat + 4)).take 8 then
      some (x.getD 1 0, (x.take ((x.getD 2 0 * 256 + x.getD 3 0).toNat + 4)).drop 4, (x.getD 2 0 * 256 + x.getD 3 0).toNat + 12)
    else none
  else none
def nextS (l : List Int) (at_ : Int) : Int × List Int × Int × Bool :=
  if 0 ≤ at_ ∧ at_ ≤ (l.length : Int) then match nextAt (l.drop at_.toNat) with
    | some (kind, body, n) => (kind, body, at_ + n, true)
    | none => (0, [], 0, false)
  else (0, [], 0, false)

theorem shl8 (x : Int) (h : 0 ≤ x ∧ x < 256) : shlK .i64 x 8 = x * 256 := by
  unfold shlK
  rw [show min (8 : Int).toNat IntKind.i64.bits = 8 by simp [IntKind.bits], show (2 : Int) ^ 8 = 256 by decide, i64w (by omega)]

theorem Next_l0_ev (d : Int) (v : List Int) (hv : v.length = 8) :
    Ev (fun k => frame_Next_l0 d v 8 k 0) (if be8 d = v then Sum.inr () else Sum.inl (0, [], 0, false)) := by
  obtain ⟨r, hr, hE⟩ := Ev.loop (F := fun k (s : Int) => frame_Next_l0 d v 8 k s) (fun s n => 0 ≤ s ∧ s + n = 8 ∧ ∀ i, i < s.toNat → (be8 d).getD i 0 = v.getD i 0) (fun r => r = if be8 d = v then Sum.inr () else Sum.inl (0, [], 0, false)) (fun s n hI => by
    obtain ⟨h0, hn, hall⟩ := hI
    by_cases h1 : s < 8
    · have e : IntKind.u8.wrap (shrK .u64 d (56 - 8 * s)) = (be8 d).getD s.toNat 0 := by
        have : s = 0 ∨ s = 1 ∨ s = 2 ∨ s = 3 ∨ s = 4 ∨ s = 5 ∨ s = 6 ∨ s = 7 := by omega
        rcases this with rfl | rfl | rfl | rfl | rfl | rfl | rfl | rfl <;> rfl
      by_cases h2 : v.getD s.toNat 0 = (be8 d).getD s.toNat 0
      · refine .inr ⟨s + 1, n - 1, by omega, ⟨by omega, by omega, fun i hi => ?_⟩, fun r H => ?_⟩
        · by_cases e : i = s.toNat
          · rw [e]; exact h2.symm
          · exact hall i (by omega)
        · refine Ev.step (fun k => by rw [frame_Next_l0, i64w (x := 8 * s) (by omega), i64w (x := 56 - 8 * s) (by omega), i64w (x := s + 1) (by omega), e]) ?_
          exact Ev.pos h1 (Ev.pos (by omega) (Ev.pos (by omega) (Ev.neg (fun h => h h2) H)))
      · refine .inl ⟨Sum.inl (0, [], 0, false), ?_, ?_⟩
        · rw [if_neg (fun e => h2 (by rw [e]))]
        · refine Ev.step (fun k => by rw [frame_Next_l0, i64w (x := 8 * s) (by omega), i64w (x := 56 - 8 * s) (by omega), i64w (x := s + 1) (by omega), e]) ?_
          exact Ev.pos h1 (Ev.pos (by omega) (Ev.pos (by omega) (Ev.pos h2 (Ev.now _))))
    · refine .inl ⟨Sum.inr (), ?_, ?_⟩
      · rw [if_pos (list_ext_getD (by rw [len_be8, hv]) (fun i hi => hall i (by rw [len_be8] at hi; omega)))]
      · refine Ev.step (fun k => by rw [frame_Next_l0]) ?_
        exact Ev.neg h1 (Ev.now _)) 0 8 ⟨by omega, by omega, fun i hi => absurd hi (by simp)⟩
  rw [← hr]; exact hE

theorem frame_Next_ev (l : List Int) (at_ : Int) (hb : Bytes l) (hl : l.length ≤ 4611686018427387904) (ha : -9223372036854775808 ≤ at_ ∧ at_ < 9223372036854775808) : Ev (fun k => frame_Next k l at_) (nextS l at_) := by
  unfold frame_Next nextS
  by_cases h : 0 ≤ at_ ∧ at_ ≤ (l.length : Int)
  · rw [if_pos h]
    refine Ev.bind (b := decide ((l.length : Int) - at_ < 12)) ?_ ?_
    · refine Ev.neg (by omega) (Ev.neg (by omega) ?_)
      rw [i64w (by omega)]; exact Ev.now _
    · generalize hx : l.drop at_.toNat = x
      have hxl : (x.length : Int) = (l.length : Int) - at_ := by rw [← hx, List.length_drop]; omega
      have hbx : Bytes x := hx ▸ hb.drop _
      unfold nextAt
      refine Ev.ite (fun h1 => ?_) (fun h1 => ?_)
      · have h1 : (l.length : Int) - at_ < 12 := by simpa using h1
        rw [if_pos (by omega)]; exact Ev.now _
      · have h1 : ¬ (l.length : Int) - at_ < 12 := by simpa using h1
        rw [if_neg (by omega)]
        refine Ev.pos ⟨h.1, h.2, by omega⟩ ?_
        refine Ev.name fun v hv => ?_
        rw [show (l.length : Int).toNat = l.length by omega, List.take_length, hx] at hv
        subst hv
        refine Ev.pos (by omega) (Ev.pos (by omega) ?_)
        refine Ev.name fun e he => ?_
        have g0 := hbx.get 0
        have g1 := hbx.get 1
        have g2 := hbx.get 2
        have g3 := hbx.get 3
        simp only [show (2 : Int).toNat = 2 from rfl, show (3 : Int).toNat = 3 from rfl] at he
        rw [i64w (x := v.getD 2 0) (by omega), i64w (x := v.getD 3 0) (by omega), shl8 _ g2, i64w (x := 4 + v.getD 2 0 * 256) (by omega), i64w (by omega)] at he
        generalize hn : (v.getD 2 0 * 256 + v.getD 3 0).toNat = n
        have hen : e = (n : Int) + 4 := by omega
        simp only [show (0 : Int).toNat = 0 from rfl, show (1 : Int).toNat = 1 from rfl]
        refine Ev.bind (b := decide (¬ (v.getD 0 0 = 71 ∧ ¬ v.getD 1 0 = 0 ∧ n + 12 ≤ v.length))) ?_ ?_
        · refine Ev.pos (by omega) (Ev.ite (fun h2 => (Ev.now _).is (decide_eq_true (p := ¬ _) (fun h => h2 h.1)).symm) (fun h2 => ?_))
          refine Ev.pos (by omega) (Ev.ite (fun h3 => (Ev.now _).is (decide_eq_true (p := ¬ _) (fun h => h.2.1 h3)).symm) (fun h3 => ?_))
          rw [i64w (by omega)]
          refine (Ev.now _).is ?_
          have h2 : v.getD 0 0 = 71 := by omega
          rw [decide_eq_decide]
          constructor
          · intro h4 h5; omega
          · intro h4; exact Classical.byContradiction fun h5 => h4 ⟨h2, h3, by omega⟩
        · refine Ev.ite (fun h2 => ?_) (fun h2 => ?_)
          · rw [if_neg (of_decide_eq_true h2)]; exact Ev.now _
          · have h2 : v.getD 0 0 = 71 ∧ ¬ v.getD 1 0 = 0 ∧ n + 12 ≤ v.length := Classical.byContradiction fun h => h2 (decide_eq_true h)
            rw [if_pos h2]
            refine Ev.pos (by omega) ?_
            have en : e.toNat = n + 4 := by omega
            simp only [en, List.drop_zero]
            refine Ev.bind (digest_Of_ev _ (by simp [Short, maxLen]) (by simp [Short, maxLen]; omega)) ?_
            rw [i64w (x := e + 8) (by omega), show (e + 8).toNat = n + 12 by omega]
            refine Ev.pos (by omega) ?_
            refine Ev.name fun w hw => ?_
            have hw' : w = (v.drop (n + 4)).take 8 := by
              rw [hw, List.drop_take]; congr 1; omega
            refine Ev.name fun m hm => ?_
            have hwl : w.length = 8 := by rw [hw', List.length_take, List.length_drop]; omega
            rw [← hw, hwl] at hm
            subst hm
            refine Ev.bind (Next_l0_ev _ w hwl) ?_
            simp only [List.flatten_cons, List.flatten_nil, List.append_nil]
            rw [hw']
            by_cases h3 : be8 (fnv fnv0 (v.take (n + 4))) = (v.drop (n + 4)).take 8
            · rw [if_pos h3, if_pos h3]
              refine Ev.pos (by omega) (Ev.pos (by omega) ?_)
              refine Ev.tell (fun _ => clone_some _ (by simp; omega)) ?_
              rw [i64w (x := v.getD 1 0) (by omega), i64w (x := at_ + e) (by omega), i64w (by omega)]
              refine (Ev.now _).is ?_
              simp only [Prod.mk.injEq, true_and, and_true]
              refine ⟨rfl, ?_⟩
              omega
            · rw [if_neg h3, if_neg h3]
              exact Ev.now _
  · rw [if_neg h]
    refine Ev.bind (b := true) ?_ (Ev.pos rfl (Ev.now _))
    refine Ev.ite (fun _ => Ev.now _) (fun h1 => Ev.pos (by omega) (Ev.now _))
end Go.Proofs.Ytanogihdhnhpaaa.Pure
