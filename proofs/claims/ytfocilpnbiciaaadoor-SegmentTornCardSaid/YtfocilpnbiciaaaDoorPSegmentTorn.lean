/- SegmentTorn: what was laid is read again, as far as it is whole. -/
import Derived.Test.YtfocilpnbiciaaaDoorF6
import Derived.Test.YtfocilpnbiciaaaDoorPSeg3
import Derived.Test.YtfocilpnbiciaaaDoorLSegmentTorn
namespace Go.Proofs.YtfocilpnbiciaaaDoor.Pure
open Go Go.Gg Go.Gp Gf
set_option linter.unusedVariables false
set_option linter.unusedSimpArgs false
def L1 (e : T41) : List Int := frameOf e.f0 (bodyE e)
def LL (es : List T41) : List Int := es.flatMap L1
def Pl (es : List T41) (i : Nat) : Nat := (LL (es.take i)).length
def Good (n : Int) (es : List T41) : Prop := ∀ i, i < es.length → MayE (es.getD i z41) n ∧ ((es.getD i z41).f0 = 1 ↔ i = 0)
theorem L1_len {e : T41} {n : Int} (h : MayE e n) : 12 ≤ (L1 e).length ∧ (L1 e).length ≤ 152 ∧ Bytes (L1 e) := by
  have := h.some8.body
  unfold L1
  rw [len_frameOf]
  exact ⟨by omega, by omega, frameOf_bytes _ this.2.2⟩
theorem LL_succ {es : List T41} {i : Nat} (h : i < es.length) : LL (es.take (i + 1)) = LL (es.take i) ++ L1 (es.getD i z41) := by
  unfold LL; rw [take_getD es z41 h]; simp
theorem Good.mem {n : Int} {es : List T41} (h : Good n es) : ∀ e ∈ es, MayE e n := fun e he => by
  obtain ⟨i, hi, rfl⟩ := List.mem_iff_getElem.1 he
  have := (h i hi).1
  rwa [getD_eq es z41 hi] at this
theorem Good.take {n : Int} {es : List T41} (h : Good n es) (w : Nat) : Good n (es.take w) := fun i hi => by
  have h1 : i < w ∧ i < es.length := by simp at hi; omega
  rw [getD_take _ _ h1.1]
  exact h i h1.2
theorem LL_bound {n : Int} : ∀ {es : List T41}, (∀ e ∈ es, MayE e n) → 12 * es.length ≤ (LL es).length ∧ (LL es).length ≤ 152 * es.length ∧ Bytes (LL es)
  | [], _ => ⟨by simp [LL], by simp [LL], Bytes.nil⟩
  | e :: es, h => by
    have h1 := L1_len (h e (by simp))
    have h2 := LL_bound (es := es) fun x hx => h x (by simp [hx])
    have e1 : LL (e :: es) = L1 e ++ LL es := by simp [LL]
    rw [e1, List.length_append, List.length_cons]
    exact ⟨by omega, by omega, h1.2.2.app h2.2.2⟩
theorem Pl_zero (es : List T41) : Pl es 0 = 0 := by simp [Pl, LL]
theorem Pl_step {n : Int} {es : List T41} (h : Good n es) {i : Nat} (hi : i < es.length) : Pl es i + 12 ≤ Pl es (i + 1) ∧ Pl es (i + 1) = Pl es i + (L1 (es.getD i z41)).length := by
  have := L1_len (h i hi).1
  unfold Pl
  rw [LL_succ hi, List.length_append]
  omega
theorem Pl_mono {n : Int} {es : List T41} (h : Good n es) : ∀ {i j : Nat}, i ≤ j → j ≤ es.length → Pl es i ≤ Pl es j
  | i, 0, h1, _ => by rw [show i = 0 by omega]; omega
  | i, j + 1, h1, h2 => by
    by_cases e : i = j + 1
    · rw [e]; omega
    · have := Pl_mono h (i := i) (j := j) (by omega) (by omega)
      have := (Pl_step h (i := j) (by omega)).1
      omega
theorem Pl_all (es : List T41) : Pl es es.length = (LL es).length := by unfold Pl; rw [List.take_length]
theorem LL_parts {es : List T41} {i : Nat} (h : i < es.length) (post : List Int) : LL es ++ post = LL (es.take i) ++ (L1 (es.getD i z41) ++ (LL (es.drop (i + 1)) ++ post)) := by
  conv => lhs; rw [parts_getD es z41 h]
  simp [LL]
theorem segR_goes {n : Int} {es : List T41} (h : Good n es) (post : List Int) : ∀ (d i f : Nat), i + d = es.length →
    segR (LL es ++ post) n (f + d) (es.take i) ((Pl es i : Nat) : Int) = segR (LL es ++ post) n f es (((LL es).length : Nat) : Int)
  | 0, i, f, hi => by
    obtain rfl : i = es.length := by omega
    rw [List.take_length, Pl_all]; rfl
  | d + 1, i, f, hi => by
    have hi' : i < es.length := by omega
    obtain ⟨hm, h0⟩ := h i hi'
    have hst := Pl_step h hi'
    have h1 := segR_next hm (pre := LL (es.take i)) (post := LL (es.drop (i + 1)) ++ post) (by
      rw [h0]
      have : Pl es i = (LL (es.take i)).length := rfl
      rw [← this]
      constructor
      · intro e; rw [e, Pl_zero]
      · intro e
        rcases Nat.eq_zero_or_pos i with e' | e'
        · exact e'
        · have h2 := Pl_mono h (i := 1) (j := i) (by omega) (by omega)
          have h3 := (Pl_step h (i := 0) (by omega)).1
          rw [Pl_zero] at h3
          have h4 : Pl es (0 + 1) = Pl es 1 := rfl
          omega) (f + d) (es.take i)
    have e1 : (frameOf (es.getD i z41).f0 (bodyE (es.getD i z41))) = L1 (es.getD i z41) := rfl
    rw [e1, ← LL_parts hi' post, ← take_getD es z41 hi'] at h1
    have e2 : ((LL (es.take i)).length + (L1 (es.getD i z41)).length : Nat) = Pl es (i + 1) := hst.2.symm
    rw [e2] at h1
    rw [show f + (d + 1) = f + d + 1 by omega]
    refine h1.trans ?_
    exact segR_goes h post d (i + 1) f (by omega)
theorem segS_goes {n : Int} {es : List T41} (h : Good n es) {post : List Int} (hs : (nextS (LL es ++ post) (((LL es).length : Nat) : Int)).2.2.2 = false) : segS (LL es ++ post) n = (es, (((LL es).length : Nat) : Int)) := by
  have hb := LL_bound h.mem
  obtain ⟨f, hf⟩ : ∃ f, (LL es ++ post).length + 1 = f + es.length := ⟨(LL es ++ post).length + 1 - es.length, by rw [List.length_append]; omega⟩
  have := segR_goes h post es.length 0 f (by omega)
  rw [← hf, Pl_zero, List.take_zero] at this
  unfold segS
  refine Eq.trans this ?_
  exact segR_stop (.inl hs) _ _
theorem nextS_at (pre rest : List Int) : (nextS (pre ++ rest) ((pre.length : Nat) : Int)).2.2.2 = (nextAt rest).isSome := by
  unfold nextS
  rw [if_pos ⟨by omega, by rw [List.length_append]; omega⟩, Int.toNat_natCast, List.drop_left]
  cases nextAt rest with
  | none => rfl
  | some t => rfl
def ends (es : List T41) (i : Nat) : List Int := (List.range i).map fun j => ((Pl es (j + 1) : Nat) : Int)
theorem len_ends (es : List T41) (i : Nat) : (ends es i).length = i := by simp [ends]
theorem getD_ends (es : List T41) {i j : Nat} (h : j < i) : (ends es i).getD j 0 = ((Pl es (j + 1) : Nat) : Int) := by
  rw [getD_eq _ 0 (by rw [len_ends]; exact h)]; simp [ends]
theorem great_some (x : T41) : ∃ g, grapevinelaw8_great x = some g := by
  unfold grapevinelaw8_great
  split
  · exact ⟨_, rfl⟩
  · split <;> exact ⟨_, rfl⟩
theorem laying_ev {es : List T41} (hl : es.length ≤ 10) (n : Int) : ∀ (d i : Nat), i + d = es.length → (∀ j, j < i → MayE (es.getD j z41) n ∧ ((es.getD j z41).f0 = 1 ↔ j = 0)) →
    ∃ r, Ev (fun k => grapevinelaw8_SegmentTorn_l0 es n k (LL (es.take i)) (ends es i) (i : Int)) r ∧ (r = Sum.inl true ∨ (Good n es ∧ r = Sum.inr (LL es, ends es es.length)))
  | 0, i, hi, h => by
    obtain rfl : i = es.length := by omega
    refine ⟨Sum.inr (LL es, ends es es.length), Ev.step (fun k => by rw [grapevinelaw8_SegmentTorn_l0]) (Ev.neg (by omega) ((Ev.now _).is (by rw [List.take_length]))), .inr ⟨fun j hj => h j hj, rfl⟩⟩
  | d + 1, i, hi, h => by
    have hi' : i < es.length := by omega
    obtain ⟨g, hg⟩ := great_some (es.getD i z41)
    by_cases hc : g = false ∧ MayE (es.getD i z41) n ∧ ((es.getD i z41).f0 = 1 ↔ i = 0)
    · obtain ⟨r, hr, hq⟩ := laying_ev hl n d (i + 1) (by omega) (fun j hj => if e : j = i then by rw [e]; exact hc.2 else h j (by omega))
      refine ⟨r, ?_, hq⟩
      refine Ev.step (fun k => by rw [grapevinelaw8_SegmentTorn_l0, step64 i (by omega), Int.toNat_natCast]) ?_
      have hb := L1_len hc.2.1
      have hmem : ∀ e ∈ es.take i, MayE e n := fun e he => by
        obtain ⟨j, hj, rfl⟩ := List.mem_iff_getElem.1 he
        have hj' : j < i ∧ j < es.length := by simp at hj; omega
        have := (h j hj'.1).1
        rw [getD_eq es z41 hj'.2] at this
        simpa using this
      have hbd := LL_bound hmem
      have hlt : (es.take i).length = i := by simp; omega
      refine Ev.pos (by omega) (Ev.bind (b := false) (Ev.pos (by omega) ?_) (Ev.neg (by simp) (Ev.pos (by omega) ?_)))
      · simp only [hg, Option.bind_some]
        refine Ev.neg (by simp [hc.1]) (Ev.pos (by omega) (Ev.bind (sMay_ev _ _) (Ev.neg (by rw [decide_eq_true hc.2.1]; simp) (Ev.pos (by omega) ((Ev.now _).is ?_)))))
        rw [beq2]; exact decide_eq_false (p := ¬ _) (fun h => h (hc.2.2.trans (by omega)))
      · refine Ev.bind ((sLay_ev _).is (if_pos hc.2.1.some8)) (Ev.bind (b := false) (Ev.neg (by simp) ((Ev.now _).is ?_)) (Ev.neg (by simp) ?_))
        · have e1 : (frameOf (es.getD i z41).f0 (bodyE (es.getD i z41))) = L1 (es.getD i z41) := rfl
          rw [beq0, e1]; exact decide_eq_false (fun e => by have e : L1 (es.getD i z41) = [] := e; rw [e] at hb; simp at hb)
        · have e1 : (frameOf (es.getD i z41).f0 (bodyE (es.getD i z41))) = L1 (es.getD i z41) := rfl
          simp only [e1]
          rw [← LL_succ hi']
          have e2 : ends es i ++ [(((LL (es.take (i + 1))).length : Nat) : Int)] = ends es (i + 1) := by simp [ends, List.range_succ, Pl]
          rw [e2]
          exact Ev.pos (by omega) (Ev.pos (by rw [len_ends]; simp; omega) hr)
    · refine ⟨Sum.inl true, ?_, .inl rfl⟩
      refine Ev.step (fun k => by rw [grapevinelaw8_SegmentTorn_l0, step64 i (by omega), Int.toNat_natCast]) ?_
      refine Ev.pos (by omega) (Ev.bind (b := true) (Ev.pos (by omega) ?_) (Ev.pos rfl (Ev.bind awake8_ev (Ev.now _))))
      simp only [hg, Option.bind_some]
      cases g with
      | true => exact Ev.pos rfl (Ev.now _)
      | false =>
        refine Ev.neg (by simp) (Ev.pos (by omega) (Ev.bind (sMay_ev _ _) ?_))
        by_cases hm : MayE (es.getD i z41) n
        · refine Ev.neg (by rw [decide_eq_true hm]; simp) (Ev.pos (by omega) ((Ev.now _).is ?_))
          rw [beq2]; exact decide_eq_true (p := ¬ _) (fun h => hc ⟨rfl, hm, h.trans (by omega)⟩)
        · exact Ev.pos (by rw [decide_eq_false hm]; rfl) (Ev.now _)
theorem whole_ev {n : Int} {es : List T41} (h : Good n es) (hl : es.length ≤ 10) {t : Int} (h0 : 0 ≤ t) (A : List Int) :
    ∃ w : Nat, w ≤ es.length ∧ ((Pl es w : Nat) : Int) ≤ t ∧ (w < es.length → t < ((Pl es (w + 1) : Nat) : Int)) ∧ Ev (fun k => grapevinelaw8_SegmentTorn_l1 (A, ends es es.length) t k 0 0 0) ((w : Int), ((Pl es w : Nat) : Int)) := by
  have key : ∀ (d j w : Nat), j + d = es.length → w ≤ j → ((Pl es w : Nat) : Int) ≤ t → (w < j → t < ((Pl es (w + 1) : Nat) : Int)) →
      ∃ w' : Nat, w' ≤ es.length ∧ ((Pl es w' : Nat) : Int) ≤ t ∧ (w' < es.length → t < ((Pl es (w' + 1) : Nat) : Int)) ∧ Ev (fun k => grapevinelaw8_SegmentTorn_l1 (A, ends es es.length) t k (w : Int) ((Pl es w : Nat) : Int) (j : Int)) ((w' : Int), ((Pl es w' : Nat) : Int)) := by
    intro d
    induction d with
    | zero =>
      intro j w hj h1 h2 h3
      obtain rfl : j = es.length := by omega
      exact ⟨w, h1, h2, h3, Ev.step (fun k => by rw [grapevinelaw8_SegmentTorn_l1]) (Ev.neg (by simp only [len_ends]; omega) (Ev.now _))⟩
    | succ d ih =>
      intro j w hj h1 h2 h3
      have hj' : j < es.length := by omega
      have hg := getD_ends es hj'
      by_cases hc : ((Pl es (j + 1) : Nat) : Int) ≤ t
      · obtain ⟨w', a1, a2, a3, a4⟩ := ih (j + 1) (j + 1) (by omega) (by omega) hc (by omega)
        refine ⟨w', a1, a2, a3, ?_⟩
        refine Ev.step (fun k => by rw [grapevinelaw8_SegmentTorn_l1, step64 j (by omega), Int.toNat_natCast]) ?_
        simp only [hg, len_ends]
        exact Ev.pos (by omega) (Ev.pos (by omega) (Ev.pos hc (Ev.pos (by omega) a4)))
      · obtain ⟨w', a1, a2, a3, a4⟩ := ih (j + 1) w (by omega) (by omega) h2 (fun hw => by
          by_cases e : w = j
          · rw [e]; omega
          · exact h3 (by omega))
        refine ⟨w', a1, a2, a3, ?_⟩
        refine Ev.step (fun k => by rw [grapevinelaw8_SegmentTorn_l1, step64 j (by omega), Int.toNat_natCast]) ?_
        simp only [hg, len_ends]
        exact Ev.pos (by omega) (Ev.pos (by omega) (Ev.neg hc a4))
  obtain ⟨w, a1, a2, a3, a4⟩ := key es.length 0 0 (by omega) (by omega) (by rw [Pl_zero]; omega) (by omega)
  rw [Pl_zero] at a4
  exact ⟨w, a1, a2, a3, a4⟩
theorem SegmentTorn : SegmentTorn_Pure := by
  intro es n cut behind hes hn hcut hbeh
  have hbb := Bytes.of hbeh.2
  refine Ev.rounds (f := fun k => grapevinelaw8_SegmentTorn k es n cut behind) ?_
  unfold grapevinelaw8_SegmentTorn
  refine Ev.bind (b := decide ((es.length : Int) > 10 ∨ (behind.length : Int) > 200)) ((Ev.now _).congr fun k => ?_) ?_
  · by_cases h : (es.length : Int) > 10 <;> simp [h]
  refine Ev.ite (fun h => Ev.bind awake8_ev (Ev.now _)) (fun h => ?_)
  have h : es.length ≤ 10 ∧ behind.length ≤ 200 := by simp at h; omega
  obtain ⟨r, hr, hq⟩ := laying_ev h.1 n es.length 0 (by omega) (fun j hj => absurd hj (by omega))
  refine Ev.bind hr ?_
  rcases hq with rfl | ⟨hg, rfl⟩
  · exact Ev.now _
  have hbd := LL_bound hg.mem
  have hsm : ∀ w, Small (es.take w) := fun w => Small.of (n := n) (by simp; omega) (hg.take w).mem
  have hsm0 : Small es := Small.of (n := n) (by omega) hg.mem
  have hrd := segS_goes hg (post := []) (nextS_end _ (by simp))
  rw [List.append_nil] at hrd
  simp only
  refine Ev.bind ((sRead_ev hbd.2.2 (by omega) n).is hrd) ?_
  refine Ev.bind (b := false) (Ev.bind ((SameEntries_ev hsm0).is (decide_eq_true rfl)) (Ev.neg (by simp) ((Ev.now _).is (by simp)))) (Ev.neg (by simp) ?_)
  have ew : IntKind.i64.wrap (((LL es).length : Int) + 1) = ((LL es).length : Int) + 1 := i64w (by omega)
  obtain ⟨t, ht, ht0, ht1⟩ := low_some (a := cut) (b := ((LL es).length : Int) + 1) (by omega)
  simp only [ew, ht, Option.bind_some]
  obtain ⟨w, w1, w2, w3, w4⟩ := whole_ev hg h.1 ht0 (LL es)
  refine Ev.bind w4 (Ev.pos (by omega) ?_)
  have hgw := hg.take w
  have hbw := LL_bound hgw.mem
  have hp : (LL (es.take w)).length = Pl es w := rfl
  -- cut short
  have hcut2 : ∃ rest, (LL es).take t.toNat = LL (es.take w) ++ rest ∧ nextAt rest = none := by
    by_cases hw : w < es.length
    · have := w3 hw
      have hst := Pl_step hg hw
      have hp2 := LL_parts hw []
      rw [List.append_nil, List.append_nil] at hp2
      have hbm := (hg w hw).1.some8.body
      refine ⟨(L1 (es.getD w z41)).take (t.toNat - Pl es w), ?_, ?_⟩
      · rw [hp2, List.take_append, List.take_of_length_le (by omega), hp, List.take_append_of_le_length (by omega)]
      · exact nextAt_cut (by omega) (by have := hst.2; unfold L1 at this; rw [len_frameOf] at this; omega)
    · obtain rfl : w = es.length := by omega
      refine ⟨[], ?_, rfl⟩
      rw [Pl_all] at w2
      rw [List.take_of_length_le (by omega), List.take_length, List.append_nil]
  obtain ⟨rest, hrest, hno⟩ := hcut2
  have hbrest : Bytes (LL (es.take w) ++ rest) := by rw [← hrest]; exact hbd.2.2.take _
  have hrd2 := segS_goes hgw (post := rest) (by rw [nextS_at, hno]; rfl)
  rw [hrest]
  have hlr : (LL (es.take w) ++ rest).length ≤ 1520 := by rw [← hrest]; simp; omega
  refine Ev.bind ((sRead_ev hbrest (by omega) n).is hrd2) ?_
  have etw : ((es.take (w : Int).toNat).drop (0 : Int).toNat) = es.take w := by simp
  simp only [etw, hp]
  refine Ev.bind (b := false) (Ev.pos (by omega) (Ev.bind ((SameEntries_ev (hsm w)).is (decide_eq_true rfl)) (Ev.neg (by simp) ((Ev.now _).is (by simp))))) (Ev.neg (by simp) ?_)
  have hle : Pl es w ≤ (LL es).length := by rw [← Pl_all]; exact Pl_mono hg w1 (Nat.le_refl _)
  refine Ev.pos (by omega) (Ev.pos (by simp; omega) (Ev.pos (by simp; omega) ?_))
  have hv2 : ([] : List Int) ++ (LL es).take ((Pl es w : Nat) : Int).toNat ++ behind = LL (es.take w) ++ behind := by
    rw [List.nil_append, Int.toNat_natCast, ← hp]
    congr 1
    by_cases hw : w < es.length
    · have hp2 := LL_parts hw []
      rw [List.append_nil, List.append_nil] at hp2
      rw [hp2, List.take_left]
    · obtain rfl : w = es.length := by omega
      rw [List.take_length, List.take_length]
  simp only [hv2]
  have hbv := hbw.2.2.app hbb
  have hlv : (LL (es.take w) ++ behind).length < 1073741824 := by rw [List.length_append]; have := hbw.2.1; simp at this; omega
  refine Ev.bind (rNext_ev _ _ hbv (by omega) (by omega)) (Ev.bind (sRead_ev hbv hlv n) ?_)
  refine Ev.bind (b := true) (Ev.ite (fun h => Ev.bind awake8_ev (Ev.now _)) (fun h => ?_)) (Ev.now _)
  have hrd3 := segS_goes hgw (post := behind) (by rw [hp]; simpa using h)
  rw [hrd3]
  refine Ev.pos (by omega) (Ev.bind ((SameEntries_ev (hsm w)).is (decide_eq_true rfl)) (Ev.pos rfl (Ev.pos (by simp [hp]) (Ev.bind awake8_ev (Ev.now _)))))
end Go.Proofs.YtfocilpnbiciaaaDoor.Pure
