/- The plain law of DeemWords. -/
import Derived.Test.YtbphlohiealbeaaDoorLDeemWords
import Derived.Test.YtbphlohiealbeaaDoorPDeem3
namespace Go.Proofs.YtbphlohiealbeaaDoor.Pure
open Go Go.Gg Go.Gp Gf
set_option linter.unusedVariables false
set_option linter.unusedSimpArgs false
theorem Low_at {a b : Int} (hb : 0 < b ∧ b < 1000000) : ∃ v, grapevinelaw0_Low a b = some v ∧ 0 ≤ v ∧ v < b := by
  unfold grapevinelaw0_Low
  rw [u64w (by omega : 0 ≤ b ∧ b < 18446744073709551616), if_pos (by omega)]
  have h0 : 0 ≤ IntKind.u64.wrap a := by rw [IntKind.wrap_u64]; omega
  generalize IntKind.u64.wrap a = u at h0
  have h1 := Int.tmod_nonneg b h0
  have h2 := Int.tmod_lt_of_pos u hb.1
  exact ⟨_, rfl, by rw [i64w (by omega)]; omega, by rw [i64w (by omega)]; omega⟩
theorem OfD_wd {s : ByteArray} : ∀ i < (OfD s).length, ∃ c : List Int, c ≠ [] ∧ c.length ≤ 120 ∧ (OfD s).getD i z45 = ⟨bs (c.map Lib.toLowerU), (i : Int)⟩ := by
  intro i hi
  cases h : (decide (s.size ≤ 120) && Lib.validD s.data.toList)
  · rw [OfD, h] at hi; simp at hi
  · have e : OfD s = Wd (runesOf s) := by unfold OfD; rw [h]; rfl
    simp only [Bool.and_eq_true, decide_eq_true_eq] at h
    obtain ⟨rs, hr, rfl⟩ := valid_bs h.2
    rw [e, runesOf_bs rs hr] at hi ⊢
    rw [Wd_length] at hi
    rw [Wd_get rs hi]
    have hm : (words rs).getD i ⟨#[]⟩ ∈ words rs := getD_mem _ _ hi
    obtain ⟨c, hc, hce⟩ := List.mem_map.1 hm
    have h1 := runs_mem oth (P := fun _ => True) rs [] (by simp) (by simp) c hc
    have h2 := run_small hc
    have h3 := enc_length c
    rw [bs_size] at h
    exact ⟨c, h1.1, by omega, by rw [← hce]⟩
theorem OfD_size {s : ByteArray} {t : T45} (h : t ∈ OfD s) : t.f0.size ≤ 480 := by
  obtain ⟨i, hi, rfl⟩ := List.mem_iff_getElem.1 h
  obtain ⟨c, h1, h2, h3⟩ := OfD_wd i hi
  have e : (OfD s).getD i z45 = (OfD s)[i] := by simp [List.getD_eq_getElem?_getD, List.getElem?_eq_getElem hi]
  rw [e] at h3
  rw [h3]
  show (bs (c.map Lib.toLowerU)).size ≤ 480
  rw [bs_size]
  have := enc_length4 (c.map Lib.toLowerU)
  rw [List.length_map] at this
  omega
theorem words_l0 (ws : List T45) (i j : Int) (hi : Nat) (e : (if j > i then j else i) = (hi : Int)) (hh : hi < ws.length) (hl : ws.length ≤ 120) : ∀ (n m : Nat) (ps : List ByteArray), m + n = hi + 1 → ps.length ≤ m →
    Ev (fun k => grapevinelaw15_DeemWords_l0 ws i j k ps (m : Int)) (ps ++ ((ws.drop m).take n).map (·.f0))
  | 0, m, ps, hn, hp => by
    refine Ev.step (fun k => by rw [grapevinelaw15_DeemWords_l0]) ?_
    rw [e]
    exact Ev.neg (by omega) ((Ev.now _).is (by simp))
  | n + 1, m, ps, hn, hp => by
    refine Ev.step (fun k => by rw [grapevinelaw15_DeemWords_l0]) ?_
    rw [e]
    refine Ev.pos (by omega) (Ev.pos (by omega) (Ev.pos (by simp; omega) ?_))
    rw [i64w (by omega), show ((m : Nat) : Int) + 1 = ((m + 1 : Nat) : Int) by omega, show ((m : Nat) : Int).toNat = m by omega]
    refine (words_l0 ws i j hi e hh hl n (m + 1) _ (by omega) (by simp; omega)).is ?_
    rw [drop_getD ws z45 (by omega : m < ws.length), List.take_succ_cons, List.map_cons, List.append_assoc]
    rfl
theorem ps_get (ws : List T45) (lo n j : Nat) (hj : j < n) (hl : lo + j < ws.length) : (([] : List ByteArray) ++ ((ws.drop lo).take n).map (·.f0)).getD j ⟨#[]⟩ = (ws.getD (lo + j) z45).f0 := by
  simp [List.getD_eq_getElem?_getD, List.getElem?_take, hj, List.getElem?_drop, List.getElem?_eq_getElem hl]
theorem mFrom_of (ws : List T45) (ps : List ByteArray) (i : Nat) (h : ∀ j < ps.length, M ws ps i j = true) : ∀ n j, j + n = ps.length → mFrom ws ps i n j = true
  | 0, _, _ => rfl
  | n + 1, j, hn => by rw [mFrom, h j (by omega), mFrom_of ws ps i h n (j + 1) (by omega)]; rfl
theorem anyFrom_of (ws : List T45) (ps : List ByteArray) (m : Nat) (h : mFrom ws ps m ps.length 0 = true) : ∀ n i, i ≤ m → m < i + n → anyFrom ws ps n i = true
  | 0, i, h1, h2 => by omega
  | n + 1, i, h1, h2 => by
    rw [anyFrom]
    by_cases c : i = m
    · rw [c, h]; rfl
    · rw [anyFrom_of ws ps m h n (i + 1) (by omega) (by omega)]; simp
theorem phrase_of (s : ByteArray) (ps : List ByteArray) (lo : Nat) (h0 : 0 < ps.length) (h : ∀ j < ps.length, lo + j < (OfD s).length ∧ ps.getD j ⟨#[]⟩ = ((OfD s).getD (lo + j) z45).f0) : phraseD (OfD s) ps = true := by
  have hl := OfD_len s
  unfold phraseD
  rw [decide_eq_true h0]
  refine anyFrom_of _ _ lo (mFrom_of _ _ lo (fun j hj => ?_) _ 0 (by omega)) _ 0 (by omega) (by have := (h 0 h0).1; omega)
  obtain ⟨h1, h2⟩ := h j hj
  obtain ⟨c, _, _, h3⟩ := OfD_wd (s := s) (lo + j) h1
  obtain ⟨c', _, _, h4⟩ := OfD_wd (s := s) lo (by omega)
  unfold M
  rw [decide_eq_true h1, h2, h3, h4]
  show (true && decide ((⟨bs (c.map Lib.toLowerU), ((lo + j : Nat) : Int)⟩ : T45) = ⟨bs (c.map Lib.toLowerU), IntKind.i64.wrap ((lo : Int) + j)⟩)) = true
  rw [i64w (by omega)]
  simp
theorem DeemWords : DeemWords_Pure := by
  intro r a b c hr ha hb hc
  have hrs : r.f4.size ≤ 9223372036854775807 := hr.2.2.2.2
  apply Ev.rounds
  unfold grapevinelaw15_DeemWords
  rw [recMay_eq hrs]
  have yes : ∀ {f : Nat → Option Bool}, Ev (fun k => if true = true then ((grapevinelaw15_awake k).bind fun t => some t) else f k) true := fun {f} => Ev.pos rfl (Ev.bind awake_ev (Ev.now _))
  by_cases c1 : (r.f4.size : Int) > 300
  · exact Ev.bind (b := true) (Ev.pos c1 (Ev.now _)) yes
  cases hrb : recB r
  · exact Ev.bind (b := true) (Ev.neg c1 (Ev.name fun v hv => (Ev.now _).is (by rw [hv]; rfl))) yes
  refine Ev.bind (b := false) (Ev.neg c1 (Ev.name fun v hv => (Ev.now _).is (by rw [hv]; rfl))) ?_
  refine Ev.neg Bool.false_ne_true ?_
  refine Ev.bind (Of_ev hrs) ?_
  have hl := OfD_len r.f4
  by_cases c2 : ((OfD r.f4).length : Int) = 0
  · exact Ev.pos c2 (Ev.bind awake_ev (Ev.now _))
  refine Ev.neg c2 ?_
  obtain ⟨i, hi, i0, i1⟩ := Low_at (a := a) (b := ((OfD r.f4).length : Int)) ⟨by omega, by omega⟩
  obtain ⟨j, hj, j0, j1⟩ := Low_at (a := b) (b := ((OfD r.f4).length : Int)) ⟨by omega, by omega⟩
  rw [hi, hj]
  refine Ev.name fun i' hi' => ?_
  refine Ev.name fun j' hj' => ?_
  rw [hi', hj']
  obtain ⟨lo, elo⟩ : ∃ lo : Nat, (if j < i then j else i) = (lo : Int) := ⟨(if j < i then j else i).toNat, by split <;> omega⟩
  obtain ⟨up, eup⟩ : ∃ up : Nat, (if j > i then j else i) = (up : Int) := ⟨(if j > i then j else i).toNat, by split <;> omega⟩
  have hle : lo ≤ up ∧ up < (OfD r.f4).length := by
    constructor <;> (split at elo <;> split at eup <;> omega)
  rw [elo]
  refine Ev.bind (words_l0 (OfD r.f4) i j up eup hle.2 (by omega) (up + 1 - lo) lo [] (by omega) (by simp)) ?_
  refine Ev.pos (by omega) ?_
  have hps := ps_get (OfD r.f4) lo (up + 1 - lo)
  have hpl : (([] : List ByteArray) ++ (((OfD r.f4).drop lo).take (up + 1 - lo)).map (·.f0)).length = up + 1 - lo := by simp; omega
  have hpm : ∀ w ∈ (([] : List ByteArray) ++ (((OfD r.f4).drop lo).take (up + 1 - lo)).map (·.f0)), w.size ≤ 480 := by
    intro w hw
    rw [List.nil_append] at hw
    obtain ⟨t, ht, rfl⟩ := List.mem_map.1 hw
    exact OfD_size (List.mem_of_mem_drop (List.mem_of_mem_take ht))
  generalize (([] : List ByteArray) ++ (((OfD r.f4).drop lo).take (up + 1 - lo)).map (·.f0)) = ps at hps hpl hpm ⊢
  rw [show ((lo : Nat) : Int).toNat = lo by omega]
  refine Ev.name fun w hw => ?_
  obtain ⟨cs, h1, h2, h3⟩ := OfD_wd (s := r.f4) lo (by omega)
  have wn : 1 ≤ w.size ∧ w.size ≤ 480 := by
    have k1 := enc_length (cs.map Lib.toLowerU)
    have k2 := enc_length4 (cs.map Lib.toLowerU)
    have k3 := List.length_pos_iff.2 h1
    rw [List.length_map] at k1 k2
    rw [hw, h3]
    show 1 ≤ (bs (cs.map Lib.toLowerU)).size ∧ (bs (cs.map Lib.toLowerU)).size ≤ 480
    rw [bs_size]
    omega
  refine Ev.neg (by
    rw [toList_beq, decide_eq_true_eq]
    intro e
    rw [e] at wn
    exact absurd wn.1 (by decide)) ?_
  obtain ⟨z, hz, z0, z1⟩ := Low_at (a := c) (b := (w.size : Int)) ⟨by omega, by omega⟩
  rw [hz]
  refine Ev.name fun z' hz' => ?_
  rw [hz', i64w (by omega)]
  refine Ev.pos ⟨by omega, by omega, by omega⟩ ?_
  refine Ev.bind (b := true) ?_ (Ev.now _)
  have hP : phraseD (OfD r.f4) ps = true := phrase_of r.f4 ps lo (by omega) (fun j hj => ⟨by omega, hps j (by omega) (by omega)⟩)
  have hW : phraseD (OfD r.f4) [w] = true := phrase_of r.f4 [w] lo (by simp) (fun j hj => by
    have : j = 0 := by simpa using hj
    subst this
    exact ⟨by omega, hw⟩)
  have hV := Phrase_ev (OfD r.f4) ps (by omega) (by omega)
  rw [hP] at hV
  refine Ev.bind hV (Ev.pos rfl ?_)
  have ans : ∀ x : T25, holdsN r.f0 r.f2 (OfD r.f4) 1 x = true → holdsD 1 x r = mayB 1 x := fun x h => by unfold holdsD; rw [hrb, h]; simp
  have s1 := small_leaf (x := (⟨1, 0, [w], []⟩ : T25)) (by simp) (by simp; omega) rfl
  refine Ev.bind (Holds_ev (d := 1) (by decide) s1.1 s1.2 hrs) ?_
  refine Ev.bind (askMay_ev (d := 1) (by decide) s1.1 s1.2) ?_
  refine Ev.pos (by rw [ans (⟨1, 0, [w], []⟩ : T25) hW]; simp) ?_
  have s2 := small_leaf (x := (⟨2, 0, [w.extract (0 : Int).toNat (1 + z).toNat], []⟩ : T25)) (by simp) (by simp; omega) rfl
  refine Ev.bind (Holds_ev (d := 1) (by decide) s2.1 s2.2 hrs) ?_
  refine Ev.bind (askMay_ev (d := 1) (by decide) s2.1 s2.2) ?_
  have hQ : prefD (OfD r.f4) (w.extract (0 : Int).toNat (1 + z).toNat) = true := by
    unfold prefD
    rw [List.any_eq_true]
    refine ⟨(OfD r.f4).getD lo z45, getD_mem _ _ (by omega), ?_⟩
    rw [← hw]
    have hs : (w.extract (0 : Int).toNat (1 + z).toNat).size = (1 + z).toNat := by rw [ByteArray.size_extract]; simp; omega
    unfold prefB
    rw [hs, decide_eq_true (by omega : (1 + z).toNat ≤ w.size)]
    exact decide_eq_true rfl
  refine Ev.pos (by rw [ans (⟨2, 0, [w.extract (0 : Int).toNat (1 + z).toNat], []⟩ : T25) hQ]; simp) ?_
  have s3 := small_leaf (x := (⟨3, 0, ps, []⟩ : T25)) (by show ps.length ≤ 300; omega) (fun w hw => by have := hpm w hw; omega) rfl
  refine Ev.bind (Holds_ev (d := 1) (by decide) s3.1 s3.2 hrs) ?_
  refine Ev.bind (askMay_ev (d := 1) (by decide) s3.1 s3.2) ?_
  refine Ev.pos (by rw [ans (⟨3, 0, ps, []⟩ : T25) hP]; simp) ?_
  exact Ev.bind awake_ev (Ev.now _)
end Go.Proofs.YtbphlohiealbeaaDoor.Pure
