/- Messages in plain words: the program's reader, and the document's. -/
import Derived.Test.YtfocilpnbiciaaaDoorF2
import Derived.Test.YtfocilpnbiciaaaDoorF3
import Derived.Test.YtfocilpnbiciaaaDoorPTalk3
namespace Go.Proofs.YtfocilpnbiciaaaDoor.Pure
open Go Go.Gg Go.Gp Gf
set_option linter.unusedVariables false
set_option linter.unusedSimpArgs false

theorem numStep {b : List Int} (hb : Bytes b) (hl : b.length < 1073741824) (kd fr tn : Int) (V W : List Int) (rs : List T39) (s : Int) (p : Nat) (hp : p < 1073741824) {y i : Int} (hy : 0 ≤ y ∧ y < 65536) (hi : i < s) (h0 : 0 ≤ i ∧ i < 100) {r : Int × T101}
    (H : Ev (fun k => talk_letter_number_l0 s k (y * 256 + b.getD p 0) (i + 1) ⟨b, ((p + 1 : Nat) : Int), kd, fr, tn, V, W, rs⟩) r) : Ev (fun k => talk_letter_number_l0 s k y i ⟨b, (p : Int), kd, fr, tn, V, W, rs⟩) r := by
  have g := hb.get p
  refine Ev.step (fun k => by rw [talk_letter_number_l0, i64w (x := y * 256) (by omega), i64w (x := i + 1) (by omega), step64 p (by omega)]) ?_
  refine Ev.pos hi ?_
  by_cases h : p < b.length
  · refine Ev.pos (by dsimp only; omega) (Ev.pos (by dsimp only; omega) ?_)
    simp only [Int.toNat_natCast]
    rw [byte_id g, i64w (x := y * 256 + _) (by omega)]
    exact H
  · refine Ev.neg (by dsimp only; omega) ?_
    rw [getD_over b 0 (by omega), Int.add_zero] at H
    exact H
theorem num1_ev {b : List Int} (hb : Bytes b) (hl : b.length < 1073741824) (kd fr tn : Int) (V W : List Int) (rs : List T39) (p : Nat) (hp : p < 1073741823) :
    Ev (fun k => talk_letter_number k ⟨b, (p : Int), kd, fr, tn, V, W, rs⟩ 1) (b.getD p 0, ⟨b, ((p + 1 : Nat) : Int), kd, fr, tn, V, W, rs⟩) := by
  unfold talk_letter_number
  refine Ev.bind (b := (b.getD p 0, ⟨b, ((p + 1 : Nat) : Int), kd, fr, tn, V, W, rs⟩)) (numStep hb hl kd fr tn V W rs 1 p (by omega) (by omega) (by omega) (by omega) ?_) (Ev.now _)
  refine Ev.step (fun k => by rw [talk_letter_number_l0]) (Ev.neg (by omega) ((Ev.now _).is ?_))
  rw [Int.zero_mul, Int.zero_add]
theorem num2_ev {b : List Int} (hb : Bytes b) (hl : b.length < 1073741824) (kd fr tn : Int) (V W : List Int) (rs : List T39) (p : Nat) (hp : p < 1073741822) :
    Ev (fun k => talk_letter_number k ⟨b, (p : Int), kd, fr, tn, V, W, rs⟩ 2) (b.getD p 0 * 256 + b.getD (p + 1) 0, ⟨b, ((p + 2 : Nat) : Int), kd, fr, tn, V, W, rs⟩) := by
  have g := hb.get p
  unfold talk_letter_number
  refine Ev.bind (b := (b.getD p 0 * 256 + b.getD (p + 1) 0, ⟨b, ((p + 2 : Nat) : Int), kd, fr, tn, V, W, rs⟩)) (numStep hb hl kd fr tn V W rs 2 p (by omega) (by omega) (by omega) (by omega) (numStep hb hl kd fr tn V W rs 2 (p + 1) (by omega) (by omega) (by omega) (by omega) ?_)) (Ev.now _)
  refine Ev.step (fun k => by rw [talk_letter_number_l0]) (Ev.neg (by omega) ((Ev.now _).is ?_))
  rw [Int.zero_mul, Int.zero_add]
theorem tvector_ev {b : List Int} (hb : Bytes b) (hl : b.length < 1073741824) (kd fr tn : Int) (V W : List Int) (rs : List T39) (p n : Nat) (hn : n ≤ 8) (hp : p < 1000) :
    Ev (fun k => talk_letter_vector k ⟨b, (p : Int), kd, fr, tn, V, W, rs⟩ (n : Int)) (ns b p n, ⟨b, ((p + 2 * n : Nat) : Int), kd, fr, tn, V, W, rs⟩) := by
  unfold talk_letter_vector
  refine Ev.bind (b := (ns b p n, ⟨b, ((p + 2 * n : Nat) : Int), kd, fr, tn, V, W, rs⟩)) ?_ (Ev.now _)
  have h := Ev.count (F := fun k (s : List Int × T101) i => talk_letter_vector_l0 (n : Int) k s.1 i s.2) (r := (ns b p n, ⟨b, ((p + 2 * n : Nat) : Int), kd, fr, tn, V, W, rs⟩)) (fun i => (ns b p i, ⟨b, ((p + 2 * i : Nat) : Int), kd, fr, tn, V, W, rs⟩)) n (fun i hi r H => by
    refine Ev.step (fun k => by rw [talk_letter_vector_l0, step64 i (by omega)]) ?_
    refine Ev.pos (by omega) (Ev.bind (num2_ev hb hl kd fr tn V W rs (p + 2 * i) (by omega)) (Ev.pos (by simp [len_ns]; omega) ?_))
    rw [← ns_succ, show p + 2 * i + 2 = p + 2 * (i + 1) by omega]
    exact H) (by
    exact Ev.step (g := fun _ => some (ns b p n, ⟨b, ((p + 2 * n : Nat) : Int), kd, fr, tn, V, W, rs⟩)) (fun k => by rw [talk_letter_vector_l0, if_neg (by omega)]) (Ev.now _))
  exact h
theorem rd_high {b : List Int} {p : Int} (hb : Bytes b) (h : (rd b p).2.2 = true) : p + 12 ≤ (rd b p).2.1 ∧ (rd b p).2.1 ≤ (b.length : Int) := by
  obtain ⟨h1, h2, h3, h4, h5⟩ := rd_sound hb h
  rw [len_lay] at h3
  omega
theorem records_l0_ev {b : List Int} (hb : Bytes b) (hl : b.length < 1073741824) (kd fr tn : Int) (V W : List Int) (cnt : Nat) (hcnt : cnt < 256) : ∀ (d i : Nat) (p : Int) (acc : List T39), i + d = cnt → acc.length ≤ i → -1000 ≤ p ∧ p < 1073741824 →
    (∀ rs q, recR b d p acc = some (rs, q) → Ev (fun k => talk_reader_records_l0 (cnt : Int) k (i : Int) ⟨b, p, kd, fr, tn, V, W, acc⟩) (Sum.inr ⟨b, q, kd, fr, tn, V, W, rs⟩)) ∧
      (recR b d p acc = none → ∃ x, Ev (fun k => talk_reader_records_l0 (cnt : Int) k (i : Int) ⟨b, p, kd, fr, tn, V, W, acc⟩) (Sum.inl (false, x)))
  | 0, i, p, acc, hi, ha, hp => by
    refine ⟨fun rs q h => ?_, fun h => by cases h⟩
    cases h
    exact Ev.step (fun k => by rw [talk_reader_records_l0]) (Ev.neg (by omega) (Ev.now _))
  | d + 1, i, p, acc, hi, ha, hp => by
    have hrd := Read_ev hb hl (a := p) (by omega)
    have start : ∀ r, Ev (fun k => ((some ((rd b p).1, (rd b p).2.1, (rd b p).2.2)).bind fun (s8 : T39 × Int × Bool) => (if (!s8.2.2) = true then some (Sum.inl (false, (⟨b, p, kd, fr, tn, V, W, acc⟩ : T101))) else (if acc.length + ([s8.1] : List T39).length ≤ 1073741824 then talk_reader_records_l0 (cnt : Int) k ((i + 1 : Nat) : Int) (⟨b, s8.2.1, kd, fr, tn, V, W, (acc ++ ([s8.1] : List T39))⟩ : T101) else none)))) r →
        Ev (fun k => talk_reader_records_l0 (cnt : Int) k (i : Int) ⟨b, p, kd, fr, tn, V, W, acc⟩) r := fun r H => by
      refine Ev.step (fun k => by rw [talk_reader_records_l0, step64 i (by omega)]) ?_
      exact Ev.pos (by omega) (Ev.bind (Ev.bind hrd (Ev.now _)) H)
    by_cases h : (rd b p).2.2 = true
    · have hh := rd_high hb h
      have ih := records_l0_ev hb hl kd fr tn V W cnt hcnt d (i + 1) (rd b p).2.1 (acc ++ [(rd b p).1]) (by omega) (by simp; omega) (by omega)
      refine ⟨fun rs q hr => ?_, fun hr => ?_⟩
      · rw [recR, if_pos h] at hr
        refine start _ (Ev.neg (by simp [h]) (Ev.pos (by simp; omega) (ih.1 rs q hr)))
      · rw [recR, if_pos h] at hr
        obtain ⟨x, hx⟩ := ih.2 hr
        exact ⟨x, start _ (Ev.neg (by simp [h]) (Ev.pos (by simp; omega) hx))⟩
    · refine ⟨fun rs q hr => ?_, fun hr => ⟨_, start _ (Ev.pos (by simpa using h) (Ev.now _))⟩⟩
      rw [recR, if_neg h] at hr
      cases hr
def z54T : T54 := ⟨0, 0, 0, [], [], []⟩
def ReadT (l : List Int) (n : Int) (r : T54 × Int) : Prop := (∃ m, Acc l n m ∧ r = (m, 0)) ∨ ((∀ m, ¬ Acc l n m) ∧ r = (z54T, 12))
theorem ReadT.uniq {l : List Int} {n : Int} {r r' : T54 × Int} (h : ReadT l n r) (h' : ReadT l n r') : r = r' := by
  rcases h with ⟨m, h1, rfl⟩ | ⟨h1, rfl⟩
  · rcases h' with ⟨m', h2, rfl⟩ | ⟨h2, rfl⟩
    · rw [h1.uniq h2]
    · exact absurd h1 (h2 m)
  · rcases h' with ⟨m', h2, rfl⟩ | ⟨h2, rfl⟩
    · exact absurd h2 (h1 m')
    · rfl
theorem tRead_ev {l : List Int} (hb : Bytes l) (hl : l.length < 1073741824) (n : Int) : ∃ r, Ev (fun k => talk_Read k l n) r ∧ ReadT l n r := by
  have hnx := frame_Next_ev l 0 hb (by omega) (by omega)
  have hbd := nextS_body hb 0
  by_cases h1 : (nextS l 0).2.2.2 = true ∧ (nextS l 0).2.2.1 = (l.length : Int) ∧ 1 ≤ n ∧ n ≤ 8
  case neg =>
    unfold talk_Read
    refine ⟨(z54T, 12), Ev.bind hnx (Ev.bind (b := true) ((Ev.now _).congr fun k => ?_) (Ev.pos rfl (Ev.now _))), .inr ⟨fun m hm => h1 ?_, rfl⟩⟩
    · by_cases a1 : (nextS l 0).2.2.2 = true
      · by_cases a2 : (nextS l 0).2.2.1 = (l.length : Int)
        · by_cases a3 : n < 1
          · simp [a1, a2, a3]
          · have a4 : n > 8 := by
              rcases Int.lt_or_le 8 n with h | h
              · exact h
              · exact absurd ⟨a1, a2, by omega, h⟩ h1
            simp [a1, a2, a3, a4]
        · simp [a1, a2]
      · simp [a1]
    · rw [hm.next]
      have := hm.1.facts
      exact ⟨rfl, rfl, this.2.1.1, this.2.1.2⟩
  obtain ⟨hok, hend, hn1, hn8⟩ := h1
  obtain ⟨k, rfl⟩ : ∃ k : Nat, n = (k : Int) := ⟨n.toNat, by omega⟩
  obtain ⟨hw, hkd, hlb⟩ := frame_whole hb hok hend
  generalize hg : nextS l 0 = t at hnx hbd hok hend hw hkd hlb
  obtain ⟨kind, b, e, ok⟩ := t
  simp only at hbd hok hend hw hkd hlb
  subst hok
  subst hend
  have hbl : b.length < 1073741824 := by omega
  have hbb := hbd.1
  have fail : ∀ r, Ev (fun k' => talk_Read k' l (k : Int)) r → r = r := fun _ _ => rfl
  clear fail
  -- what the header tells
  have n1 := num1_ev hbb hbl kind 0 0 [] [] [] 0 (by omega)
  have n2 := num1_ev hbb hbl kind 0 0 [] [] [] 1 (by omega)
  have n3 := num1_ev hbb hbl kind (b.getD 0 0) (b.getD 1 0) [] [] [] 2 (by omega)
  have v1 := tvector_ev hbb hbl kind (b.getD 0 0) (b.getD 1 0) [] [] [] 3 k (by omega) (by omega)
  have v2 := tvector_ev hbb hbl kind (b.getD 0 0) (b.getD 1 0) [] [] [] (3 + 2 * k) k (by omega) (by omega)
  have n4 := num1_ev hbb hbl kind (b.getD 0 0) (b.getD 1 0) (ns b 3 k) (ns b (3 + 2 * k) k) [] (3 + 2 * k + 2 * k) (by omega)
  have e4 : 3 + 2 * k + 2 * k = 3 + 4 * k := by omega
  rw [e4] at v2 n4
  have head : ∀ (s : Bool) (x : T101) (r : T54 × Int), Ev (fun k' => (if ¬ b.getD 2 0 = (k : Int) then some (true, (⟨b, ((3 + 4 * k : Nat) : Int), kind, b.getD 0 0, b.getD 1 0, ns b 3 k, ns b (3 + 2 * k) k, []⟩ : T101)) else ((talk_letter_number k' (⟨b, ((3 + 4 * k : Nat) : Int), kind, b.getD 0 0, b.getD 1 0, ns b 3 k, ns b (3 + 2 * k) k, []⟩ : T101) 1).bind fun t36 => ((talk_reader_records k' t36.2 t36.1).bind fun t40 => (if (!t40.1) = true then some (true, t40.2) else ((talk_May k' (⟨t40.2.f2, t40.2.f3, t40.2.f4, t40.2.f5, t40.2.f6, t40.2.f7⟩ : T54) (k : Int)).bind fun t45 => some ((!t45), t40.2))))))) (s, x) →
      (r = if s = true then (z54T, 12) else (⟨x.f2, x.f3, x.f4, x.f5, x.f6, x.f7⟩, 0)) →
      Ev (fun k' => talk_Read k' l (k : Int)) r := fun s x r H hr => by
    unfold talk_Read
    refine Ev.bind hnx (Ev.bind (b := false) ((Ev.now _).congr fun k' => ?_) (Ev.neg (by simp) ?_))
    · rw [if_neg (by simp), if_neg (by simp), if_neg (by omega), decide_eq_false (by omega)]
    refine Ev.bind n1 (Ev.bind n2 (Ev.bind n3 (Ev.bind v1 (Ev.bind v2 (Ev.bind H ?_)))))
    rw [hr]
    cases s with
    | true => exact Ev.pos rfl (Ev.now _)
    | false => exact Ev.neg (by simp) (Ev.now _)
  have none_ : ∀ m, Acc l (k : Int) m → (m.f0 = kind ∧ bodyT m (k : Int) = b) := fun m hm => by
    have := hm.next
    rw [hg] at this
    simp only [Prod.mk.injEq] at this
    exact ⟨this.1.symm, this.2.1.symm⟩
  by_cases hk : b.getD 2 0 = (k : Int)
  case neg =>
    refine ⟨(z54T, 12), head true _ _ (Ev.pos hk (Ev.now _)) rfl, .inr ⟨fun m hm => ?_, rfl⟩⟩
    obtain ⟨_, h2⟩ := none_ m hm
    have := (bodyT_read hm.1).1
    rw [h2] at this
    exact hk this
  have g4 := hbb.get (3 + 4 * k)
  obtain ⟨cnt, hcnt⟩ : ∃ c : Nat, b.getD (3 + 4 * k) 0 = (c : Int) := ⟨(b.getD (3 + 4 * k) 0).toNat, by omega⟩
  have hrec := records_l0_ev hbb hbl kind (b.getD 0 0) (b.getD 1 0) (ns b 3 k) (ns b (3 + 2 * k) k) cnt (by omega) cnt 0 ((3 + 4 * k + 1 : Nat) : Int) [] (by omega) (by simp) (by omega)
  rw [hcnt] at n4
  have e5 : 3 + 4 * k + 1 = 4 + 4 * k := by omega
  rw [e5] at hrec n4
  cases hr : recR b cnt ((4 + 4 * k : Nat) : Int) [] with
  | none =>
    obtain ⟨x, hx⟩ := hrec.2 hr
    refine ⟨(z54T, 12), head true x _ (Ev.neg (fun h => h hk) (Ev.bind n4 (Ev.bind (b := (false, x)) (Ev.bind hx (Ev.now _)) (Ev.pos rfl (Ev.now _))))) rfl, .inr ⟨fun m hm => ?_, rfl⟩⟩
    obtain ⟨_, h2⟩ := none_ m hm
    have h3 := bodyT_read hm.1
    rw [h2, hcnt] at h3
    have : m.f5.length = cnt := by omega
    rw [this] at h3
    rw [hr] at h3
    exact absurd h3.2.2.2.1 (by simp)
  | some t =>
    obtain ⟨rs, q⟩ := t
    have hx := hrec.1 rs q hr
    have hrr : Ev (fun k' => talk_reader_records k' ⟨b, ((4 + 4 * k : Nat) : Int), kind, b.getD 0 0, b.getD 1 0, ns b 3 k, ns b (3 + 2 * k) k, []⟩ (cnt : Int)) (q == (b.length : Int), ⟨b, q, kind, b.getD 0 0, b.getD 1 0, ns b 3 k, ns b (3 + 2 * k) k, rs⟩) := Ev.bind hx (Ev.now _)
    by_cases hq : q = (b.length : Int)
    case neg =>
      refine ⟨(z54T, 12), head true ⟨b, q, kind, b.getD 0 0, b.getD 1 0, ns b 3 k, ns b (3 + 2 * k) k, rs⟩ _ (Ev.neg (fun h => h hk) (Ev.bind n4 (Ev.bind hrr (Ev.pos (by simpa using hq) (Ev.now _))))) rfl, .inr ⟨fun m hm => ?_, rfl⟩⟩
      obtain ⟨_, h2⟩ := none_ m hm
      have h3 := bodyT_read hm.1
      rw [h2, hcnt] at h3
      have : m.f5.length = cnt := by omega
      rw [this, hr] at h3
      have := h3.2.2.2.1
      simp only [Option.some.injEq, Prod.mk.injEq] at this
      exact hq this.2
    subst hq
    have hbt := bodyT_laid (kind := kind) hbb (show k ≤ 8 by omega) hk (by rw [hcnt, Int.toNat_natCast]; exact hr)
    refine ⟨if MayT (fieldsT kind b k rs) (k : Int) then (fieldsT kind b k rs, 0) else (z54T, 12), head (!decide (MayT (fieldsT kind b k rs) (k : Int))) ⟨b, (b.length : Int), kind, b.getD 0 0, b.getD 1 0, ns b 3 k, ns b (3 + 2 * k) k, rs⟩ _ (Ev.neg (fun h => h hk) (Ev.bind n4 (Ev.bind hrr (Ev.neg (by simp) (Ev.bind (tMay_ev (fieldsT kind b k rs) _) (Ev.now _)))))) ?_, ?_⟩
    · by_cases hm : MayT (fieldsT kind b k rs) (k : Int) <;> simp [hm, fieldsT]
    · by_cases hm : MayT (fieldsT kind b k rs) (k : Int)
      · rw [if_pos hm]
        exact .inl ⟨_, ⟨hm, by rw [hbt]; exact hw⟩, rfl⟩
      · rw [if_neg hm]
        refine .inr ⟨fun m hm2 => hm ?_, rfl⟩
        obtain ⟨h1, h2⟩ := none_ m hm2
        have h3 := bodyT_read hm2.1
        rw [h2, hcnt] at h3
        have : m.f5.length = cnt := by omega
        rw [this, hr] at h3
        have h4 := h3.2.2.2.1
        simp only [Option.some.injEq, Prod.mk.injEq, and_true] at h4
        have h5 := h3.2.2.1 rs
        rw [← h1, h5, h4]
        exact hm2.1

/-! ## The document's reader -/
end Go.Proofs.YtfocilpnbiciaaaDoor.Pure
