/- Messages in plain words: the document's reader. -/
import Derived.Test.YtfocilpnbiciaaaDoorF4
import Derived.Test.YtfocilpnbiciaaaDoorF7
import Derived.Test.YtfocilpnbiciaaaDoorF9
import Derived.Test.YtfocilpnbiciaaaDoorPTalk4
namespace Go.Proofs.YtfocilpnbiciaaaDoor.Pure
open Go Go.Gg Go.Gp Gf
set_option linter.unusedVariables false
set_option linter.unusedSimpArgs false

theorem rns_ev {b : List Int} (hb : Bytes b) (hl : b.length < 1073741824) (p n : Nat) (hn : n ≤ 8) (h : p + 2 * n ≤ b.length) : Ev (fun k => grapevineref20_vector k b (p : Int) (n : Int)) (ns b p n) := by
  unfold grapevineref20_vector
  refine Ev.bind (b := ns b p n) ?_ (Ev.now _)
  have := Ev.count (F := fun k s i => grapevineref20_vector_l0 b (p : Int) (n : Int) k s i) (r := ns b p n) (fun i => ns b p i) n (fun i hi r H => by
    have e4 : IntKind.i64.wrap ((p : Int) + IntKind.i64.wrap (2 * (i : Int))) = ((p + 2 * i : Nat) : Int) := by rw [i64w (x := 2 * (i : Int)) (by omega), i64w (by omega)]; omega
    have g := Get_ev hb hl (p + 2 * i) 2 (by omega) (by omega)
    rw [if_pos (by omega), num_two (by omega)] at g
    refine Ev.step (fun k => by rw [grapevineref20_vector_l0, e4, step64 i (by omega)]) ?_
    refine Ev.pos (by omega) (Ev.bind g (Ev.pos (by simp [len_ns]; omega) ?_))
    rw [← ns_succ]; exact H) (by
    exact Ev.step (g := fun _ => some (ns b p n)) (fun k => by rw [grapevineref20_vector_l0, if_neg (by omega)]) (Ev.now _))
  simpa [ns] using this
theorem rrecords_ev {kind e : Int} {ok : Bool} {b : List Int} (hb : Bytes b) (hl : b.length < 1073741824) (n : Nat) (hn : n ≤ 8) (hlen : 4 + 4 * n ≤ b.length) (cnt : Nat) (hcnt : b.getD (3 + 4 * n) 0 = (cnt : Int)) (m : T54) : ∀ (d i : Nat) (p : Int) (acc : List T39), i + d = cnt → acc.length ≤ i → -1000 ≤ p ∧ p < 1073741824 →
    Ev (fun k => grapevineref20_Read_l0 (n : Int) (kind, b, e, ok) k p (i : Int) { m with f5 := acc }) (match recR b d p acc with | some (rs, q) => Sum.inr { m with f5 := rs } | none => Sum.inl (z54T, 12))
  | 0, i, p, acc, hi, ha, hp => by
    have g := hb.get (3 + 4 * n)
    have e4 : IntKind.i64.wrap (3 + IntKind.i64.wrap (4 * (n : Int))) = ((3 + 4 * n : Nat) : Int) := by rw [i64w (x := 4 * (n : Int)) (by omega), i64w (by omega)]; omega
    refine Ev.step (fun k => by rw [grapevineref20_Read_l0, e4, Int.toNat_natCast, hcnt, i64w (x := (cnt : Int)) (by omega)]) ?_
    exact Ev.pos (by dsimp only; omega) (Ev.neg (by omega) (Ev.now _))
  | d + 1, i, p, acc, hi, ha, hp => by
    have g := hb.get (3 + 4 * n)
    have e4 : IntKind.i64.wrap (3 + IntKind.i64.wrap (4 * (n : Int))) = ((3 + 4 * n : Nat) : Int) := by rw [i64w (x := 4 * (n : Int)) (by omega), i64w (by omega)]; omega
    refine Ev.step (fun k => by rw [grapevineref20_Read_l0, e4, Int.toNat_natCast, hcnt, i64w (x := (cnt : Int)) (by omega), step64 i (by omega)]) ?_
    refine Ev.pos (by dsimp only; omega) (Ev.pos (by omega) (Ev.bind (rRead_ev hb hl (a := p) (by omega)) ?_))
    rw [recR]
    by_cases h : (rd b p).2.2 = true
    · have hh := rd_high hb h
      rw [if_pos h]
      refine Ev.neg (by simp [h]) (Ev.pos (by simp; omega) ?_)
      exact rrecords_ev hb hl n hn hlen cnt hcnt m d (i + 1) (rd b p).2.1 (acc ++ [(rd b p).1]) (by omega) (by simp; omega) (by omega)
    · rw [if_neg h]
      exact Ev.pos (by simpa using h) (Ev.now _)
theorem rtRead_ev {l : List Int} (hb : Bytes l) (hl : l.length < 1073741824) (n : Int) (hn : -9223372036854775808 ≤ n ∧ n < 9223372036854775808) : ∃ r, Ev (fun k => grapevineref20_Read k l n) r ∧ ReadT l n r := by
  have hnx := rNext_ev l 0 hb (by omega) (by omega)
  have hbd := nextS_body hb 0
  by_cases h1 : (nextS l 0).2.2.2 = true ∧ (1 ≤ n ∧ n ≤ 8) ∧ 4 + 4 * n ≤ ((nextS l 0).2.1.length : Int)
  case neg =>
    unfold grapevineref20_Read
    refine ⟨(z54T, 12), Ev.bind hnx (Ev.bind (b := true) ((Ev.now _).congr fun k => ?_) (Ev.pos rfl (Ev.now _))), .inr ⟨fun m hm => h1 ?_, rfl⟩⟩
    · by_cases a1 : (nextS l 0).2.2.2 = true
      · by_cases a2 : 1 ≤ n ∧ n ≤ 8
        · have a3 : ¬ 4 + 4 * n ≤ ((nextS l 0).2.1.length : Int) := fun h => h1 ⟨a1, a2, h⟩
          have e : IntKind.i64.wrap (4 + IntKind.i64.wrap (4 * n)) = 4 + 4 * n := by rw [i64w (x := 4 * n) (by omega), i64w (by omega)]
          rw [e]
          simp [a1, grapevineref3_Many, a2.1, a2.2]
          omega
        · have : grapevineref3_Many n = some false := by
            unfold grapevineref3_Many
            by_cases h : n ≥ 1
            · rw [if_pos h]; simp; omega
            · rw [if_neg h]; rfl
          simp [a1, this]
      · simp [a1]
    · rw [hm.next]
      have := hm.1.facts
      obtain ⟨k, rfl⟩ : ∃ k : Nat, n = (k : Int) := ⟨n.toNat, by omega⟩
      have h2 := (bodyT_read hm.1).2.2.2.2
      exact ⟨rfl, this.2.1, by simp only; omega⟩
  obtain ⟨hok, hn8, hlen⟩ := h1
  obtain ⟨k, rfl⟩ : ∃ k : Nat, n = (k : Int) := ⟨n.toNat, by omega⟩
  generalize hg : nextS l 0 = t at hnx hbd hok hlen
  obtain ⟨kind, b, e, ok⟩ := t
  simp only at hbd hok hlen
  subst hok
  have hbl : b.length < 1073741824 := by omega
  have hbb := hbd.1
  have g4 := hbb.get (3 + 4 * k)
  have g0 := hbb.get 0
  have g1 := hbb.get 1
  obtain ⟨cnt, hcnt⟩ : ∃ c : Nat, b.getD (3 + 4 * k) 0 = (c : Int) := ⟨(b.getD (3 + 4 * k) 0).toNat, by omega⟩
  have hrec := rrecords_ev (kind := kind) (e := e) (ok := true) hbb hbl k (by omega) (by omega) cnt hcnt (fieldsT kind b k []) cnt 0 ((4 + 4 * k : Nat) : Int) [] (by omega) (by simp) (by omega)
  have none_ : ∀ m, Acc l (k : Int) m → recR b cnt ((4 + 4 * k : Nat) : Int) [] = some (m.f5, (b.length : Int)) ∧ fieldsT kind b k m.f5 = m := fun m hm => by
    have := hm.next
    rw [hg] at this
    simp only [Prod.mk.injEq] at this
    have h3 := bodyT_read hm.1
    rw [← this.2.1, hcnt] at h3
    have hc : m.f5.length = cnt := by omega
    rw [hc] at h3
    have h5 := h3.2.2.1 m.f5
    rw [← this.1] at h5
    refine ⟨h3.2.2.2.1, ?_⟩
    rw [h5, this.1]
  have e34 : IntKind.i64.wrap (3 + IntKind.i64.wrap (2 * (k : Int))) = ((3 + 2 * k : Nat) : Int) := by rw [i64w (x := 2 * (k : Int)) (by omega), i64w (by omega)]; omega
  have e44 : IntKind.i64.wrap (4 + IntKind.i64.wrap (4 * (k : Int))) = ((4 + 4 * k : Nat) : Int) := by rw [i64w (x := 4 * (k : Int)) (by omega), i64w (by omega)]; omega
  have head : ∀ r, Ev (fun k' => match (match recR b cnt ((4 + 4 * k : Nat) : Int) [] with | some (rs, q) => (Sum.inr (fieldsT kind b k rs) : Sum (T54 × Int) T54) | none => Sum.inl (z54T, 12)) with
      | Sum.inl r => some r
      | Sum.inr s33 => ((grapevineref20_Lay k' s33 (k : Int)).bind fun t54 => ((if ¬ t54.2 = 0 then some true else some (!((strOfNums t54.1).toList == (strOfNums l).toList))).bind fun s61 => (if s61 = true then some ((⟨0, 0, 0, ([] : List Int), ([] : List Int), ([] : List T39)⟩ : T54), 12) else some (s33, 0))))) r → Ev (fun k' => grapevineref20_Read k' l (k : Int)) r := fun r H => by
    unfold grapevineref20_Read
    refine Ev.bind hnx (Ev.bind (b := false) ((Ev.now _).congr fun k' => ?_) (Ev.neg (by simp) ?_))
    · rw [e44]
      have : grapevineref3_Many (k : Int) = some true := by
        unfold grapevineref3_Many
        rw [if_pos (by omega)]; simp; omega
      simp [this]; omega
    refine Ev.bind (b := fieldsT kind b k []) (Ev.pos (by dsimp only; omega) (Ev.pos (by dsimp only; omega) ?_)) ?_
    · rw [e34]
      refine Ev.bind (rns_ev hbb hbl 3 k (by omega) (by omega)) (Ev.bind (rns_ev hbb hbl (3 + 2 * k) k (by omega) (by omega)) ((Ev.now _).is ?_))
      simp only
      rw [show (0 : Int).toNat = 0 from rfl, show (1 : Int).toNat = 1 from rfl, byte_id g0, byte_id g1]
      rfl
    rw [e44]
    refine Ev.name fun v hv => ?_
    subst hv
    exact Ev.bind hrec H
  cases hr : recR b cnt ((4 + 4 * k : Nat) : Int) [] with
  | none =>
    rw [hr] at head
    refine ⟨(z54T, 12), head _ (Ev.now _), .inr ⟨fun m hm => ?_, rfl⟩⟩
    have := (none_ m hm).1
    rw [hr] at this
    cases this
  | some t =>
    obtain ⟨rs, q⟩ := t
    rw [hr] at head
    have lay_ := rtLay_ev (fieldsT kind b k rs) (k : Int)
    unfold laidT at lay_
    by_cases hm : MayT (fieldsT kind b k rs) (k : Int)
    case neg =>
      rw [if_neg hm] at lay_
      refine ⟨(z54T, 12), head _ (Ev.bind lay_ (Ev.bind (b := true) (Ev.pos (by simp) (Ev.now _)) (Ev.pos rfl (Ev.now _)))), .inr ⟨fun m hm2 => hm ?_, rfl⟩⟩
      obtain ⟨h1, h2⟩ := none_ m hm2
      rw [hr] at h1
      simp only [Option.some.injEq, Prod.mk.injEq] at h1
      rw [h1.1, h2]; exact hm2.1
    rw [if_pos hm] at lay_
    have hbt := bodyT_len hm
    by_cases he : frameOf (fieldsT kind b k rs).f0 (bodyT (fieldsT kind b k rs) (k : Int)) = l
    · refine ⟨(fieldsT kind b k rs, 0), head _ (Ev.bind lay_ (Ev.bind (b := false) (Ev.neg (by simp) ((Ev.now _).is ?_)) (Ev.neg (by simp) (Ev.now _)))), .inl ⟨_, ⟨hm, he.symm⟩, rfl⟩⟩
      simp only
      rw [strOfNums_inj (frameOf_bytes _ hbt.2) hb, decide_eq_true he]; rfl
    · refine ⟨(z54T, 12), head _ (Ev.bind lay_ (Ev.bind (b := true) (Ev.neg (by simp) ((Ev.now _).is ?_)) (Ev.pos rfl (Ev.now _)))), .inr ⟨fun m hm2 => he ?_, rfl⟩⟩
      · simp only
        rw [strOfNums_inj (frameOf_bytes _ hbt.2) hb, decide_eq_false he]; rfl
      · obtain ⟨h1, h2⟩ := none_ m hm2
        rw [hr] at h1
        simp only [Option.some.injEq, Prod.mk.injEq] at h1
        rw [h1.1, h2]; exact hm2.2.symm
end Go.Proofs.YtfocilpnbiciaaaDoor.Pure
