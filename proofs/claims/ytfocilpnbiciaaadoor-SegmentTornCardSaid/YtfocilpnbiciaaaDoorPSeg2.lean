/- Segments' entries in plain words: how they are read. -/
import Derived.Test.YtfocilpnbiciaaaDoorF6
import Derived.Test.YtfocilpnbiciaaaDoorPSeg
namespace Go.Proofs.YtfocilpnbiciaaaDoor.Pure
open Go Go.Gg Go.Gp Gf
set_option linter.unusedVariables false
set_option linter.unusedSimpArgs false

theorem or8 {a b : Int} (ha : 0 ≤ a ∧ a < 256) (hb : 0 ≤ b ∧ b < 256) : Go.bits .or .i64 (shlK .i64 a 8) b = a * 256 + b := by
  rw [shl8 a ha]
  exact bits_join .i64 16 (by decide) (fun n h0 h1 => i64w (by omega)) 8 _ _ (by omega) (by omega) (by omega) (by omega) (by omega) (by omega)
def nums (x : List Int) (m : Nat) : List Int := (List.range m).map fun i => x.getD (1 + 2 * i) 0 * 256 + x.getD (2 + 2 * i) 0
theorem nums_succ (x : List Int) (m : Nat) : nums x (m + 1) = nums x m ++ [x.getD (1 + 2 * m) 0 * 256 + x.getD (2 + 2 * m) 0] := by
  simp [nums, List.range_succ]
theorem len_nums (x : List Int) (m : Nat) : (nums x m).length = m := by simp [nums]
def rv (x : List Int) : Option (List Int × List Int) :=
  if 0 < x.length ∧ (x.getD 0 0).toNat ≤ (x.length - 1) / 2 then some (nums x (x.getD 0 0).toNat, x.drop (1 + 2 * (x.getD 0 0).toNat)) else none
def rvS (x : List Int) (fl : Bool) : List Int × T73 := match rv x with
  | some (v, r) => (v, ⟨r, fl⟩)
  | none => ([], ⟨x, true⟩)
theorem vector_ev {x : List Int} (hb : Bytes x) (hl : x.length < 1073741824) (fl : Bool) : Ev (fun k => segment_body_vector k ⟨x, fl⟩) (rvS x fl) := by
  unfold segment_body_vector rvS rv
  have h0 := hb.get 0
  obtain ⟨m, hm⟩ : ∃ m : Nat, x.getD 0 0 = (m : Int) := ⟨(x.getD 0 0).toNat, by omega⟩
  have e0 : x.getD (0 : Int).toNat 0 = (m : Int) := hm
  have ew : IntKind.i64.wrap (m : Int) = (m : Int) := i64w (by omega)
  simp only [e0, ew, hm, Int.toNat_natCast]
  by_cases h : 0 < x.length ∧ m ≤ (x.length - 1) / 2
  · rw [if_pos h]
    refine Ev.bind (b := false) ((Ev.now _).congr fun k => ?_) (Ev.neg (by simp) (Ev.pos (by omega) ?_))
    · rw [if_neg (by omega), if_pos (by omega), i64w (x := (x.length : Int) - 1) (by omega)]
      have et : Int.tdiv ((x.length : Int) - 1) 2 = ((x.length : Int) - 1) / 2 := Int.tdiv_eq_ediv_of_nonneg (by omega)
      rw [et, i64w (x := ((x.length : Int) - 1) / 2) (by omega), decide_eq_false (by omega)]
    refine Ev.name fun w hw => ?_
    subst hw
    refine Ev.bind (b := nums x m) ?_ ?_
    · have := Ev.count (F := fun k s i => segment_body_vector_l0 ⟨x, fl⟩ (m : Int) k s i) (r := nums x m) (fun i => nums x i) m (fun i hi r H => by
        have e1 : IntKind.i64.wrap (1 + IntKind.i64.wrap (2 * (i : Int))) = ((1 + 2 * i : Nat) : Int) := by rw [i64w (x := 2 * (i : Int)) (by omega), i64w (by omega)]; omega
        have e2 : IntKind.i64.wrap (2 + IntKind.i64.wrap (2 * (i : Int))) = ((2 + 2 * i : Nat) : Int) := by rw [i64w (x := 2 * (i : Int)) (by omega), i64w (by omega)]; omega
        have b1 := hb.get (1 + 2 * i)
        have b2 := hb.get (2 + 2 * i)
        refine Ev.step (fun k => by rw [segment_body_vector_l0, e1, e2, step64 i (by omega), Int.toNat_natCast, Int.toNat_natCast, byte_id b1, byte_id b2, or8 b1 b2]) ?_
        refine Ev.pos (by omega) (Ev.pos (by dsimp only; omega) (Ev.pos (by dsimp only; omega) (Ev.pos (by rw [len_nums]; simp; omega) ?_)))
        rw [← nums_succ]; exact H) (by
        exact Ev.step (g := fun _ => some (nums x m)) (fun k => by rw [segment_body_vector_l0, if_neg (by omega)]) (Ev.now _))
      simpa [nums] using this
    · have e1 : IntKind.i64.wrap (1 + IntKind.i64.wrap (2 * (m : Int))) = ((1 + 2 * m : Nat) : Int) := by rw [i64w (x := 2 * (m : Int)) (by omega), i64w (by omega)]; omega
      rw [e1]
      refine Ev.pos (by omega) ((Ev.now _).is ?_)
      simp only [Int.toNat_natCast, List.take_length]
  · rw [if_neg h]
    refine Ev.bind (b := true) ((Ev.now _).congr fun k => ?_) (Ev.pos rfl (Ev.now _))
    by_cases h1 : (x.length : Int) = 0
    · rw [if_pos h1]
    · rw [if_neg h1, if_pos (by omega), i64w (x := (x.length : Int) - 1) (by omega)]
      have et : Int.tdiv ((x.length : Int) - 1) 2 = ((x.length : Int) - 1) / 2 := Int.tdiv_eq_ediv_of_nonneg (by omega)
      rw [et, i64w (x := ((x.length : Int) - 1) / 2) (by omega), decide_eq_true (by omega)]

theorem rv_len {x v r : List Int} (h : rv x = some (v, r)) : v.length = (x.getD 0 0).toNat ∧ r = x.drop (1 + 2 * v.length) ∧ 0 < x.length ∧ 1 + 2 * v.length ≤ x.length ∧ v = nums x v.length := by
  unfold rv at h
  split at h
  · rename_i hc
    cases h
    rw [len_nums]
    exact ⟨rfl, rfl, hc.1, by omega, rfl⟩
  · cases h
theorem rv_vb {v : List Int} (hv : ∀ x ∈ v, 0 ≤ x ∧ x ≤ 65535) (hl : v.length ≤ 255) (r : List Int) : rv (vb v ++ r) = some (v, r) := by
  have e0 : (vb v ++ r).getD 0 0 = (v.length : Int) := by simp [vb, be]; omega
  have hn : ∀ m, m ≤ v.length → nums (vb v ++ r) m = v.take m := by
    intro m
    induction m with
    | zero => intro _; rfl
    | succ m ih =>
      intro hm
      have hx := hv _ (getD_mem v 0 (show m < v.length by omega))
      have e1 : vb v ++ r = vb (v.take m) ++ (be v.length 1).drop 1 ++ (two (v.getD m 0) ++ ((v.drop (m + 1)).flatMap two ++ r)) ∨ True := .inr trivial
      have hfl : (v.take m).flatMap two ++ (two (v.getD m 0) ++ (v.drop (m + 1)).flatMap two) = v.flatMap two := by
        conv => rhs; rw [parts_getD v 0 (show m < v.length by omega)]
        simp
      have el : (be v.length 1 ++ (v.take m).flatMap two).length = 1 + 2 * m := by
        have := len_vb (v.take m)
        simp only [vb, List.length_append, len_be] at this ⊢
        rw [this]; simp; omega
      have e2 : vb v ++ r = (be v.length 1 ++ (v.take m).flatMap two) ++ (two (v.getD m 0) ++ ((v.drop (m + 1)).flatMap two ++ r)) := by
        rw [vb, ← hfl]; simp [List.append_assoc]
      have g1 : (vb v ++ r).getD (1 + 2 * m) 0 = ((v.getD m 0).toNat / 256 % 256 : Nat) := by
        have := getD_app_right (be v.length 1 ++ (v.take m).flatMap two) (two (v.getD m 0) ++ ((v.drop (m + 1)).flatMap two ++ r)) 0 0
        rw [el, show 1 + 2 * m + 0 = 1 + 2 * m from rfl] at this
        rw [e2, this]; simp [two, be]
      have g2 : (vb v ++ r).getD (2 + 2 * m) 0 = ((v.getD m 0).toNat % 256 : Nat) := by
        have := getD_app_right (be v.length 1 ++ (v.take m).flatMap two) (two (v.getD m 0) ++ ((v.drop (m + 1)).flatMap two ++ r)) 0 1
        rw [el, show 1 + 2 * m + 1 = 2 + 2 * m by omega] at this
        rw [e2, this]; simp [two, be]
      rw [nums_succ, ih (by omega), g1, g2, take_getD v 0 (by omega)]
      congr 2
      omega
  unfold rv
  rw [e0, Int.toNat_natCast, hn v.length (Nat.le_refl _), List.take_length]
  have := len_vb v
  rw [if_pos (by simp; omega)]
  congr 2
  exact drop_app_len _ _ this

/-! ## An entry -/
def entS (kind : Int) (x : List Int) : T41 × T73 :=
  if kind = 1 then match rv x with
    | none => (⟨kind, [], [], 0, 0, 0, 0, ⟨#[]⟩⟩, ⟨x, true⟩)
    | some (v, r) => match rv r with
      | none => (⟨kind, v, [], 0, 0, 0, 0, ⟨#[]⟩⟩, ⟨r, true⟩)
      | some (w, r') => (⟨kind, v, w, 0, 0, 0, 0, ⟨#[]⟩⟩, ⟨r', false⟩)
  else if kind = 3 then match rv x with
    | none => (⟨kind, [], [], 0, 0, 0, 0, ⟨#[]⟩⟩, ⟨x, true⟩)
    | some (v, r) => (⟨kind, [], v, 0, 0, 0, 0, ⟨#[]⟩⟩, ⟨r, false⟩)
  else if kind = 2 then (⟨kind, [], [], (rd x 0).1.f0, (rd x 0).1.f1, (rd x 0).1.f2, (rd x 0).1.f3, (rd x 0).1.f4⟩, ⟨x.drop (rd x 0).2.1.toNat, !(rd x 0).2.2⟩)
  else (⟨kind, [], [], 0, 0, 0, 0, ⟨#[]⟩⟩, ⟨x, false⟩)
def readE (kind : Int) (x : List Int) (n : Int) : Option T41 := if (entS kind x).2.f1 = false ∧ (entS kind x).2.f0 = [] ∧ MayE (entS kind x).1 n then some (entS kind x).1 else none
theorem rd_range {x : List Int} (hb : Bytes x) : 0 ≤ (rd x 0).2.1 ∧ (rd x 0).2.1 ≤ (x.length : Int) := by
  unfold rd rdx none27
  have := hb.get 11
  rw [if_pos (by omega)]
  simp only [Int.toNat_zero, List.drop_zero]
  split
  · rename_i h; simp only; omega
  · simp
theorem entry_ev {x : List Int} (hb : Bytes x) (hl : x.length < 1073741824) (kind : Int) : Ev (fun k => segment_body_entry k ⟨x, false⟩ kind) (entS kind x) := by
  unfold segment_body_entry entS
  by_cases h1 : kind = 1
  · rw [if_pos h1]
    refine Ev.pos h1 (Ev.bind (vector_ev hb hl false) ?_)
    unfold rvS
    cases hr : rv x with
    | none => exact Ev.neg (by simp) (Ev.now _)
    | some vr =>
      obtain ⟨v, r⟩ := vr
      obtain ⟨_, er, _⟩ := rv_len hr
      have hbr : Bytes r := er ▸ hb.drop _
      refine Ev.pos (by simp) (Ev.bind (vector_ev hbr (by rw [er, List.length_drop]; omega) false) ?_)
      simp only [rvS]
      cases hr2 : rv r with
      | none => exact Ev.now _
      | some wr => exact Ev.now _
  rw [if_neg h1]
  refine Ev.neg h1 ?_
  by_cases h2 : kind = 3
  · rw [if_pos h2]
    refine Ev.pos h2 (Ev.bind (vector_ev hb hl false) ?_)
    unfold rvS
    cases hr : rv x with
    | none => exact Ev.now _
    | some vr => exact Ev.now _
  rw [if_neg h2]
  refine Ev.neg h2 ?_
  by_cases h3 : kind = 2
  · rw [if_pos h3]
    refine Ev.pos h3 (Ev.bind (Read_ev hb hl (by omega)) ?_)
    have := rd_range hb
    refine Ev.pos (by dsimp only; omega) ((Ev.now _).is ?_)
    simp only [Int.toNat_natCast, List.take_length]
  · rw [if_neg h3]
    exact Ev.neg h3 (Ev.now _)
theorem entS_kind (kind : Int) (x : List Int) : (entS kind x).1.f0 = kind := by
  unfold entS
  split
  · split
    · rfl
    · split <;> rfl
  · split
    · split <;> rfl
    · split <;> rfl
theorem readE_may {kind : Int} {x : List Int} {n : Int} {e : T41} (h : readE kind x n = some e) : MayE e n := by
  unfold readE at h
  split at h
  · rename_i hc; cases h; exact hc.2.2
  · cases h
theorem MayE.lens {e : T41} {n : Int} (h : MayE e n) : e.f1.length ≤ 8 ∧ e.f2.length ≤ 8 := by
  rcases h with ⟨_, _, h1, h2, _⟩ | ⟨_, _, h1, h2⟩ | ⟨_, h1, h2, _⟩
  · exact ⟨h1.len, h2.len⟩
  · rw [h1]; exact ⟨by simp, h2.len⟩
  · rw [h1, h2]; simp
/-- What was laid is read, by all for whom it may be. -/
theorem readE_body {e : T41} (h : Some8 e) (n : Int) : readE e.f0 (bodyE e) n = if MayE e n then some e else none := by
  have key : entS e.f0 (bodyE e) = (e, ⟨[], false⟩) := by
    obtain ⟨i, hi, h⟩ := h
    obtain ⟨f0, f1, f2, f3, f4, f5, f6, f7⟩ := e
    have hz : ∀ a b c d t, (⟨a, b, c, d, t⟩ : T39) = zr → a = 0 ∧ b = 0 ∧ c = 0 ∧ d = 0 ∧ t = ⟨#[]⟩ := fun a b c d t hh => by
      have := hh; unfold zr at this; simpa using this
    rcases h with ⟨h0, hr, h1, h2, _⟩ | ⟨h0, hr, h1, h2⟩ | ⟨h0, h1, h2, _, _, _, h3⟩
    · obtain ⟨rfl, rfl, rfl, rfl, rfl⟩ := hz _ _ _ _ _ hr
      simp only at h0 h1 h2
      subst h0
      have l1 := h1.len
      have l2 := h2.len
      simp only [bodyE, entS, if_true]
      rw [rv_vb (fun x hx => by have := h1.mem hx; omega) (by omega)]
      have := rv_vb (v := f2) (fun x hx => by have := h2.mem hx; omega) (by omega) []
      rw [List.append_nil] at this
      simp only [this]
    · obtain ⟨rfl, rfl, rfl, rfl, rfl⟩ := hz _ _ _ _ _ hr
      simp only at h0 h1 h2
      subst h0; subst h1
      have l2 := h2.len
      have := rv_vb (v := f2) (fun x hx => by have := h2.mem hx; omega) (by omega) []
      rw [List.append_nil] at this
      simp [bodyE, entS, this]
    · simp only at h0 h1 h2
      subst h0; subst h1; subst h2
      have h4 : rd (lay (⟨f3, f4, f5, f6, f7⟩ : T39)) 0 = (⟨f3, f4, f5, f6, f7⟩, 12 + (f7.size : Int), true) := by
        have := rd_lay h3 [] []
        simpa [rc] using this
      have hd : (lay (⟨f3, f4, f5, f6, f7⟩ : T39)).drop (12 + (f7.size : Int)).toNat = [] := List.drop_eq_nil_of_le (by rw [len_lay]; simp only; omega)
      simp only [bodyE, entS, rc]
      simp [h4, hd]
  unfold readE
  rw [key]
  simp
theorem bodyE_inj {e f : T41} (he : Some8 e) (hf : Some8 f) (h0 : e.f0 = f.f0) (h : bodyE e = bodyE f) : e = f := by
  obtain ⟨n, hn, hm⟩ := he
  have h1 := readE_body ⟨n, hn, hm⟩ ((n + 1 : Nat) : Int)
  rw [if_pos hm, h0, h] at h1
  have h2 := readE_body hf ((n + 1 : Nat) : Int)
  rw [h1] at h2
  split at h2
  · exact Option.some.inj h2
  · cases h2

/-! ## Entries, one behind the other -/
def segR (l : List Int) (n : Int) : Nat → List T41 → Int → List T41 × Int
  | 0, es, p => (es, p)
  | f + 1, es, p => if (nextS l p).2.2.2 = true ∧ ((nextS l p).1 = 1 ↔ p = 0) then
      match readE (nextS l p).1 (nextS l p).2.1 n with
      | some e => segR l n f (es ++ [e]) (nextS l p).2.2.1
      | none => (es, p)
    else (es, p)
theorem nextS_body {l : List Int} (hb : Bytes l) (p : Int) : Bytes (nextS l p).2.1 ∧ (nextS l p).2.1.length ≤ l.length := by
  unfold nextS
  split
  · split
    · rename_i kind body m hm
      unfold nextAt at hm
      split at hm
      · cases hm
      · split at hm
        · split at hm
          · cases hm
            exact ⟨((hb.drop _).take _).drop _, by simp; omega⟩
          · cases hm
        · cases hm
    · exact ⟨Bytes.nil, by simp⟩
  · exact ⟨Bytes.nil, by simp⟩
theorem beq2 (a b c d : Int) : (!((a == c) == (b == d))) = decide (¬ (a = c ↔ b = d)) := by
  by_cases h : a = c <;> by_cases h' : b = d <;> simp [h, h']
  rw [beq_false_of_ne h, beq_false_of_ne h']
theorem Read_l0_ev {l : List Int} (hb : Bytes l) (hl : l.length < 1073741824) (n : Int) : ∀ (f : Nat) (es : List T41) (p : Int), 0 ≤ p → p ≤ (l.length : Int) → (l.length : Int) - p < f → (es.length : Int) ≤ p →
    Ev (fun k => segment_Read_l0 l n k es p) (segR l n f es p)
  | 0, es, p, h0, h1, h2, h3 => absurd h2 (by omega)
  | f + 1, es, p, h0, h1, h2, h3 => by
    refine Ev.step (fun k => by rw [segment_Read_l0]) ?_
    refine Ev.bind (frame_Next_ev l p hb (by omega) (by omega)) ?_
    have hbd := nextS_body hb p
    rw [segR]
    by_cases h4 : (nextS l p).2.2.2 = true
    · have hok := nextS_ok h4
      by_cases h5 : (nextS l p).1 = 1 ↔ p = 0
      · rw [if_pos (c := _ ∧ _) ⟨h4, h5⟩]
        refine Ev.bind (b := false) (Ev.neg (by rw [h4]; simp) ((Ev.now _).is (by rw [beq2, decide_eq_false (fun h => h h5)]))) (Ev.neg (by simp) ?_)
        refine Ev.bind (entry_ev hbd.1 (by omega) _) ?_
        unfold readE
        by_cases h6 : (entS (nextS l p).1 (nextS l p).2.1).2.f1 = false ∧ (entS (nextS l p).1 (nextS l p).2.1).2.f0 = [] ∧ MayE (entS (nextS l p).1 (nextS l p).2.1).1 n
        · rw [if_pos h6]
          refine Ev.bind (b := false) (Ev.neg (by rw [h6.1]; simp) (Ev.neg (by rw [h6.2.1]; simp) (Ev.bind (sMay_ev _ _) ((Ev.now _).is (by simp [h6.2.2]))))) (Ev.neg (by simp) (Ev.pos (by simp; omega) ?_))
          exact Read_l0_ev hb hl n f _ _ (by omega) (by omega) (by omega) (by simp; omega)
        · rw [if_neg h6]
          refine Ev.bind (b := true) ?_ (Ev.pos rfl (Ev.now _))
          by_cases h7 : (entS (nextS l p).1 (nextS l p).2.1).2.f1 = true
          · exact Ev.pos h7 (Ev.now _)
          · refine Ev.neg h7 ?_
            by_cases h8 : (entS (nextS l p).1 (nextS l p).2.1).2.f0 = []
            · refine Ev.neg (by rw [h8]; simp) (Ev.bind (sMay_ev _ _) ((Ev.now _).is ?_))
              have : ¬ MayE (entS (nextS l p).1 (nextS l p).2.1).1 n := fun hm => h6 ⟨by simpa using h7, h8, hm⟩
              simp [this]
            · exact Ev.pos (by have := List.length_pos_iff.2 h8; omega) (Ev.now _)
      · rw [if_neg (c := _ ∧ _) (fun h => h5 h.2)]
        exact Ev.bind (b := true) (Ev.neg (by rw [h4]; simp) ((Ev.now _).is (by rw [beq2, decide_eq_true h5]))) (Ev.pos rfl (Ev.now _))
    · rw [if_neg (c := _ ∧ _) (fun h => h4 h.1)]
      exact Ev.bind (b := true) (Ev.pos (by simpa using h4) (Ev.now _)) (Ev.pos rfl (Ev.now _))
def segS (l : List Int) (n : Int) : List T41 × Int := segR l n (l.length + 1) [] 0
theorem sRead_ev {l : List Int} (hb : Bytes l) (hl : l.length < 1073741824) (n : Int) : Ev (fun k => segment_Read k l n) (segS l n) :=
  Read_l0_ev hb hl n _ _ _ (by omega) (by omega) (by omega) (by simp)
theorem segR_may (l : List Int) (n : Int) : ∀ (f : Nat) (es : List T41) (p : Int), (∀ e ∈ es, MayE e n) → ∀ e ∈ (segR l n f es p).1, MayE e n
  | 0, es, p, h => h
  | f + 1, es, p, h => by
    rw [segR]
    split
    · split
      · rename_i e he
        refine segR_may l n f _ _ fun x hx => ?_
        rcases List.mem_append.1 hx with hx | hx
        · exact h x hx
        · rw [List.mem_singleton.1 hx]; exact readE_may he
      · exact h
    · exact h
theorem segR_len (l : List Int) (n : Int) : ∀ (f : Nat) (es : List T41) (p : Int), (segR l n f es p).1.length ≤ es.length + f
  | 0, es, p => by simp [segR]
  | f + 1, es, p => by
    rw [segR]
    split
    · split
      · rename_i e he
        have := segR_len l n f (es ++ [e]) (nextS l p).2.2.1
        simp at this; omega
      · simp
    · simp
end Go.Proofs.YtfocilpnbiciaaaDoor.Pure
