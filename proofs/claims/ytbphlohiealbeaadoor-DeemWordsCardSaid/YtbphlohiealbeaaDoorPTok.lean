/- Words in plain words: what tokens and the document's answer tell of a text of runes. -/
import Derived.Test.YtbphlohiealbeaaDoorF0
import Derived.Test.YtbphlohiealbeaaDoorF3
import Derived.Test.YtbphlohiealbeaaDoorF5
import Derived.Test.YtbphlohiealbeaaDoorGgT
import Derived.Test.YtbphlohiealbeaaDoorGgP
namespace Go.Proofs.YtbphlohiealbeaaDoor.Pure
open Go Go.Gg Go.Gp Gf
set_option linter.unusedVariables false
set_option linter.unusedSimpArgs false

/-- Is a rune no part of a word? -/
def oth (r : Int) : Bool := !(Lib.isLetterU r || Lib.isDigitU r)
/-- The words of runes. -/
def words (rs : List Int) : List ByteArray := (runs oth [] rs).map fun c => bs (c.map Lib.toLowerU)
def Wd (rs : List Int) : List T45 := (words rs).zipIdx.map fun x => ⟨x.1, (x.2 : Int)⟩
theorem Wd_length (rs : List Int) : (Wd rs).length = (words rs).length := by simp [Wd]
theorem Wd_get (rs : List Int) {i : Nat} (h : i < (words rs).length) : (Wd rs).getD i z45 = ⟨(words rs).getD i ⟨#[]⟩, (i : Int)⟩ := by
  rw [getD_eq _ _ (by rw [Wd_length]; exact h), getD_eq _ _ h]
  simp [Wd]

theorem letter_eq {r : Int} (h : Sc r) : tokens_letter r = some (!(oth r)) := by
  unfold Sc at h
  have hs : -2147483648 ≤ r ∧ r ≤ 2147483647 := by omega
  unfold tokens_letter unicode_IsLetter unicode_IsDigit oth
  rw [if_pos hs, if_pos hs]
  cases Lib.isLetterU r <;> simp
theorem rletter_eq {r : Int} (h : Sc r) : grapevineref1_letter r = some (!(oth r)) := letter_eq h
theorem other_eq {r : Int} (h : -2147483648 ≤ r ∧ r ≤ 2147483647) : tokens_other r = some (oth r) := by
  unfold tokens_other tokens_letter unicode_IsLetter unicode_IsDigit oth
  rw [if_pos h, if_pos h]
  cases Lib.isLetterU r <;> simp
theorem other_ok : RunesOk tokens_other := fun x hx => by rw [other_eq (by omega)]; rfl
theorem other_get {r : Int} (h : Sc r) : (tokens_other ((r.toNat : Nat) : Int)).getD false = oth r := by
  rw [sc_cast h, other_eq (by unfold Sc at h; omega)]; rfl

theorem valid_eq {s : ByteArray} (h : s.size ≤ 9223372036854775807) : utf8_ValidString s = some (Lib.validD s.data.toList) := by unfold utf8_ValidString; rw [if_pos h]
theorem May_eq {s : ByteArray} (h : s.size ≤ 9223372036854775807) : tokens_May s = some (decide (s.size ≤ 120) && Lib.validD s.data.toList) := by
  unfold tokens_May
  rw [valid_eq h]
  by_cases h1 : s.size ≤ 120
  · rw [if_pos (by omega)]; simp [h1]
  · rw [if_neg (by omega)]; simp [h1]
theorem rMay_eq {s : ByteArray} (h : s.size ≤ 9223372036854775807) : grapevineref1_May s = some (decide (s.size ≤ 120) && Lib.validD s.data.toList) := May_eq h

theorem size_toList (s : ByteArray) : s.size = s.data.toList.length := by rw [Array.length_toList]; rfl

/-! ### lower letters -/
theorem Norm_eq {s : ByteArray} (h : s.size ≤ 35184372088832) : tokens_Norm s = some (normD s) := if_pos h
theorem normD_not {s : ByteArray} (h : Lib.validD s.data.toList = false) : normD s = ⟨#[]⟩ := by unfold normD; rw [if_neg (by simp [h])]
theorem ToLower_eq {r : Int} (h : Sc r) : unicode_ToLower r = some (Lib.toLowerU r) := if_pos (by unfold Sc at h; omega)
theorem runes_eq {s : ByteArray} (h : s.size ≤ 70368744177664) : grapevineref1_runes s = some (if Lib.validD s.data.toList then runesOf s else []) := by
  unfold grapevineref1_runes
  rw [valid_eq (by omega), if_pos h]
  cases Lib.validD s.data.toList <;> simp
theorem rNorm_ev (rs : List Int) (hr : ∀ r ∈ rs, Sc r) (hl : rs.length < 4294967296) : Ev (fun k => grapevineref1_Norm_l0 k 0 rs) (rs.map Lib.toLowerU) := by
  have h0 : rs = (rs.take 0).map Lib.toLowerU ++ rs.drop 0 := by simp
  have key := Ev.count (F := fun k (s : List Int) i => grapevineref1_Norm_l0 k i s) (r := rs.map Lib.toLowerU) (fun i => (rs.take i).map Lib.toLowerU ++ rs.drop i) rs.length (fun i hi r H => by
    have hlen : (((rs.take i).map Lib.toLowerU ++ rs.drop i).length : Int) = rs.length := by simp; omega
    have hat : ((rs.take i).map Lib.toLowerU ++ rs.drop i).getD ((i : Nat) : Int).toNat 0 = rs.getD i 0 := by
      rw [show ((i : Nat) : Int).toNat = i by omega, List.getD_eq_getElem?_getD, List.getElem?_append_right (by simp; omega), drop_getD rs 0 hi]
      simp [Nat.min_eq_left (show i ≤ rs.length by omega)]
    refine Ev.step (fun k => by rw [grapevineref1_Norm_l0]) ?_
    refine Ev.pos (by omega) (Ev.pos (by omega) ?_)
    rw [hat, ToLower_eq (hr _ (getD_mem rs 0 hi))]
    refine Ev.name fun v hv => ?_
    refine Ev.pos (by omega) ?_
    have e : ((rs.take i).map Lib.toLowerU ++ rs.drop i).set ((i : Nat) : Int).toNat v = (rs.take (i + 1)).map Lib.toLowerU ++ rs.drop (i + 1) := by
      rw [show ((i : Nat) : Int).toNat = i by omega, drop_getD rs 0 hi, List.set_append_right _ _ (by simp; omega), take_getD rs 0 hi, hv]
      simp [Nat.min_eq_left (show i ≤ rs.length by omega)]
    rw [e, i64w (by omega), show ((i : Nat) : Int) + 1 = ((i + 1 : Nat) : Int) by omega]
    exact H) (by
      refine Ev.step (fun k => by rw [grapevineref1_Norm_l0]) ?_
      refine Ev.neg (by simp) ?_
      exact (Ev.now _).is (by simp))
  rw [← h0] at key
  exact key
theorem rNorm_bs (rs : List Int) (hr : ∀ r ∈ rs, Sc r) (hl : (enc rs).length < 4294967296) : Ev (fun k => grapevineref1_Norm k (bs rs)) (bs (rs.map Lib.toLowerU)) := by
  unfold grapevineref1_Norm
  rw [runes_eq (by rw [bs_size]; omega), if_pos (bs_valid rs), runesOf_bs rs hr]
  refine Ev.name fun v hv => ?_
  rw [hv]
  refine Ev.bind (rNorm_ev rs hr (by have := enc_length rs; omega)) ?_
  exact (Ev.now _).is (runesBytes_bs _)
theorem rNorm_norm {s : ByteArray} (h : s.size < 4294967296) : Ev (fun k => grapevineref1_Norm k s) (normD s) := by
  cases hv : Lib.validD s.data.toList
  · unfold grapevineref1_Norm
    rw [runes_eq (by omega), hv]
    refine Ev.name fun v hv' => ?_
    subst hv'
    rw [if_neg (by simp), normD_not hv]
    refine Ev.bind (rNorm_ev [] (by simp) (by simp)) ?_
    exact (Ev.now _).is rfl
  · obtain ⟨rs, hr, rfl⟩ := valid_bs hv
    rw [normD_bs rs hr]
    exact rNorm_bs rs hr (by rw [bs_size] at h; exact h)

/-! ### words -/
theorem FieldsFunc_eq (rs : List Int) (hr : ∀ r ∈ rs, Sc r) (h : (enc rs).length ≤ 4294967296) : strings_FieldsFunc (bs rs) = some ((runs oth [] rs).map bs) := by
  unfold strings_FieldsFunc
  rw [if_pos ⟨by rw [bs_size]; exact h, other_ok⟩, goFieldsP_bs _ oth (fun r h => other_get h) rs hr]
theorem runs_sum (q : Int → Bool) : ∀ (a cur : List Int), ((runs q cur a).map fun c => (enc c).length).sum ≤ (enc cur).length + (enc a).length
  | [], cur => by unfold runs; split <;> simp [enc]
  | r :: t, cur => by
    unfold runs
    rw [enc_cons, List.length_append]
    split
    · split
      · have := runs_sum q t []; simp [enc_nil] at this; simp only [enc] at *; omega
      · have := runs_sum q t []; simp only [List.map_cons, List.sum_cons]; simp only [enc_nil, List.length_nil] at this; omega
    · have := runs_sum q t (cur ++ [r]); rw [enc_append, List.length_append, show enc [r] = Lib.encodeRune r by simp [enc]] at this; omega
theorem le_sum_of_mem : ∀ (l : List Nat) (x : Nat), x ∈ l → x ≤ l.sum
  | y :: t, x, h => by
    rcases List.mem_cons.1 h with rfl | h
    · simp
    · have := le_sum_of_mem t x h; simp; omega
theorem runs_len (q : Int → Bool) : ∀ (a cur : List Int), (runs q cur a).length ≤ cur.length + a.length
  | [], cur => by
    unfold runs
    split
    · simp
    · rename_i h; have := List.length_pos_iff.2 h; simp; omega
  | r :: t, cur => by
    unfold runs
    split
    · split
      · have := runs_len q t []; simp at this ⊢; omega
      · rename_i h; have := runs_len q t []; have := List.length_pos_iff.2 h; simp at *; omega
    · have := runs_len q t (cur ++ [r]); simp at this ⊢; omega
theorem run_small {rs : List Int} {c : List Int} (hc : c ∈ runs oth [] rs) : (enc c).length ≤ (enc rs).length := by
  have h1 := runs_sum oth rs []
  have h2 := le_sum_of_mem _ _ (List.mem_map.2 ⟨c, hc, rfl⟩ : (enc c).length ∈ (runs oth [] rs).map fun c => (enc c).length)
  simp only [enc_nil, List.length_nil] at h1
  omega

theorem zipIdx_take {α : Type} (l : List α) (d : α) {i : Nat} (h : i < l.length) : (l.take (i + 1)).zipIdx = (l.take i).zipIdx ++ [(l.getD i d, i)] := by
  rw [take_getD l d h, List.zipIdx_append]
  simp [Nat.min_eq_left (show i ≤ l.length by omega)]

theorem Of_bs (rs : List Int) (hr : ∀ r ∈ rs, Sc r) (h : (enc rs).length ≤ 120) : Ev (fun k => tokens_Of k (bs rs)) (Wd rs) := by
  unfold tokens_Of
  rw [May_eq (by rw [bs_size]; omega), FieldsFunc_eq rs hr (by omega)]
  rw [show (decide ((bs rs).size ≤ 120) && Lib.validD (bs rs).data.toList) = true by rw [bs_valid, bs_size]; simp [h]]
  refine Ev.name fun v hv => ?_
  subst hv
  refine Ev.neg (by simp) ?_
  refine Ev.name fun v hv => ?_
  have hvl : v.length = (runs oth [] rs).length := by rw [hv]; simp
  have hrl := runs_len oth rs []
  have hel := enc_length rs
  simp at hrl
  have hsc := runs_mem oth (P := Sc) rs [] (by simp) hr
  have key := Ev.count (F := fun k (s : List T45) i => tokens_Of_l0 v k s i) (r := Wd rs) (fun i => ((words rs).take i).zipIdx.map fun x => ⟨x.1, (x.2 : Int)⟩) v.length (fun i hi r H => by
    have hi' : i < (runs oth [] rs).length := by omega
    refine Ev.step (fun k => by rw [tokens_Of_l0]) ?_
    refine Ev.pos (by omega) (Ev.pos (by omega) ?_)
    refine Ev.name fun w hw => ?_
    have hm := getD_mem (runs oth [] rs) [] hi'
    have hw2 : w = bs ((runs oth [] rs).getD i []) := by
      rw [hw, hv, show ((i : Nat) : Int).toNat = i by omega, getD_eq _ _ (by simpa using hi'), getD_eq _ _ hi']
      simp
    have hsm := run_small hm
    rw [hw2, Norm_eq (by rw [bs_size]; omega), normD_bs _ (hsc _ hm).2]
    refine Ev.name fun u hu => ?_
    have hwl : (words rs).length = (runs oth [] rs).length := by simp [words]
    have hun : u = (words rs).getD i ⟨#[]⟩ := by
      rw [hu, getD_eq _ _ hi', getD_eq _ _ (by omega)]
      simp [words]
    refine Ev.pos (by simp; omega) ?_
    have e : (((words rs).take i).zipIdx.map fun x => (⟨x.1, (x.2 : Int)⟩ : T45)) ++ [(⟨u, (i : Int)⟩ : T45)] = ((words rs).take (i + 1)).zipIdx.map fun x => (⟨x.1, (x.2 : Int)⟩ : T45) := by
      rw [zipIdx_take (words rs) ⟨#[]⟩ (by omega), List.map_append, hun]
      simp
    rw [e, i64w (by omega), show ((i : Nat) : Int) + 1 = ((i + 1 : Nat) : Int) by omega]
    exact H) (by
      refine Ev.step (fun k => by rw [tokens_Of_l0]) ?_
      refine Ev.neg (by omega) ?_
      have hwl : (words rs).length = v.length := by rw [hvl]; simp [words]
      exact (Ev.now _).is (by rw [← hwl, List.take_length]; rfl))
  exact Ev.bind key (Ev.now _)
theorem Of_not {s : ByteArray} (hs : s.size ≤ 9223372036854775807) (h : (decide (s.size ≤ 120) && Lib.validD s.data.toList) = false) : Ev (fun k => tokens_Of k s) [] := by
  unfold tokens_Of
  rw [May_eq hs, h]
  refine Ev.name fun v hv => ?_
  subst hv
  exact Ev.pos (by simp) (Ev.now _)

/-- What a text's words are. -/
def OfD (s : ByteArray) : List T45 := if decide (s.size ≤ 120) && Lib.validD s.data.toList then Wd (runesOf s) else []
theorem OfD_bs (rs : List Int) (hr : ∀ r ∈ rs, Sc r) (h : (enc rs).length ≤ 120) : OfD (bs rs) = Wd rs := by
  unfold OfD
  rw [if_pos (by rw [bs_valid, bs_size]; simp [h]), runesOf_bs rs hr]
theorem Of_ev {s : ByteArray} (hs : s.size ≤ 9223372036854775807) : Ev (fun k => tokens_Of k s) (OfD s) := by
  cases h : (decide (s.size ≤ 120) && Lib.validD s.data.toList)
  · unfold OfD
    rw [h]
    exact Of_not hs h
  · simp only [Bool.and_eq_true, decide_eq_true_eq] at h
    obtain ⟨rs, hr, rfl⟩ := valid_bs h.2
    rw [bs_size] at h
    rw [OfD_bs rs hr h.1]
    exact Of_bs rs hr h.1

/-! ### the document's words -/
theorem oth32 : oth 32 = true := by decide +kernel
def numb (n : Nat) (ws : List (List Int)) : List T45 := ((ws.map fun c => bs (c.map Lib.toLowerU)).zipIdx n).map fun x => ⟨x.1, (x.2 : Int)⟩
theorem numb_nil (n : Nat) : numb n [] = [] := rfl
theorem numb_cons (n : Nat) (c : List Int) (ws : List (List Int)) : numb n (c :: ws) = ⟨bs (c.map Lib.toLowerU), (n : Int)⟩ :: numb (n + 1) ws := by simp [numb]
theorem Wd_numb (rs : List Int) : Wd rs = numb 0 (runs oth [] rs) := rfl
theorem numb_append (n : Nat) (a b : List (List Int)) : numb n (a ++ b) = numb n a ++ numb (n + a.length) b := by
  unfold numb
  rw [List.map_append, List.zipIdx_append, List.map_append, List.length_map]
theorem rOf_loop (rs : List Int) (hr : ∀ r ∈ rs, Sc r) (h : (enc rs).length ≤ 120) : ∀ (n i f : Nat) (out : List T45), i + n = rs.length + 1 → f ≤ i → out.length ≤ i → (i = rs.length + 1 → f = i) →
    Ev (fun k => grapevineref1_Of_l0 rs k out (f : Int) (i : Int)) (out ++ numb out.length (runs oth ((rs.take i).drop f) ((rs ++ [32]).drop i)))
  | 0, i, f, out, hn, hf, ho, hl => by
    have hi : i = rs.length + 1 := by omega
    have hfi := hl hi
    refine Ev.step (fun k => by rw [grapevineref1_Of_l0]) ?_
    refine Ev.neg (by simp; omega) ?_
    refine (Ev.now _).is ?_
    rw [List.drop_eq_nil_of_le (by simp; omega), List.drop_eq_nil_of_le (by simp; omega)]
    simp [runs, numb_nil]
  | n + 1, i, f, out, hn, hf, ho, hl => by
    have hel := enc_length rs
    have hlen : ((rs ++ [32]).length : Int) = rs.length + 1 := by simp
    have hi : i < (rs ++ [32]).length := by simp; omega
    have hat : ((i : Nat) : Int).toNat = i := by omega
    have hx : Sc ((rs ++ [32]).getD i 0) := by
      have := getD_mem (rs ++ [32]) 0 hi
      rcases List.mem_append.1 this with h | h
      · exact hr _ h
      · simp only [List.mem_singleton] at h; rw [h]; exact Or.inl (by omega)
    rw [drop_getD (rs ++ [32]) 0 hi]
    generalize hz : (rs ++ [32]).getD i 0 = z at hx
    refine Ev.step (fun k => by rw [grapevineref1_Of_l0]) ?_
    refine Ev.pos (by omega) (Ev.pos (by omega) ?_)
    rw [hat, hz, rletter_eq hx]
    refine Ev.name fun v hv => ?_
    rw [i64w (by omega), show ((i : Nat) : Int) + 1 = ((i + 1 : Nat) : Int) by omega]
    cases hq : oth z
    · have hir : i < rs.length := by
        rcases Nat.lt_or_ge i rs.length with h' | h'
        · exact h'
        · have : i = rs.length := by omega
          subst this
          have : z = 32 := by rw [← hz]; simp
          rw [this, oth32] at hq
          cases hq
      have hzr : rs.getD i 0 = z := by
        rw [← hz, List.getD_eq_getElem?_getD, List.getD_eq_getElem?_getD, List.getElem?_append_left hir]
      refine Ev.pos (by rw [hv, hq]; rfl) ?_
      have ih := rOf_loop rs hr h n (i + 1) f out (by omega) (by omega) (by omega) (by omega)
      rw [take_getD rs 0 hir, List.drop_append_of_le_length (by simp; omega), hzr] at ih
      unfold runs
      rw [hq]
      simpa using ih
    · refine Ev.neg (by rw [hv, hq]; simp) ?_
      have ih := fun out' (h' : out'.length ≤ i + 1) => rOf_loop rs hr h n (i + 1) (i + 1) out' (by omega) (by omega) h' (by omega)
      rw [List.drop_eq_nil_of_le (by simp; omega)] at ih
      have hcl : ((rs.take i).drop f).length = i - f := by simp; omega
      unfold runs
      rw [hq]
      simp only [if_true]
      by_cases hfi : f < i
      · have hne : (rs.take i).drop f ≠ [] := fun e => by rw [e] at hcl; simp at hcl; omega
        have hcm : ∀ r ∈ (rs.take i).drop f, Sc r := fun r hr' => hr r (List.mem_of_mem_take (List.mem_of_mem_drop hr'))
        refine Ev.pos (by omega) (Ev.pos (by omega) ?_)
        have hsl : ((rs ++ ([32] : List Int)).take i).drop ((f : Nat) : Int).toNat = (rs.take i).drop f := by rw [List.take_append_of_le_length (by omega), show ((f : Nat) : Int).toNat = f by omega]
        rw [hsl, runesBytes_bs]
        refine Ev.bind (rNorm_bs _ hcm (by have := enc_length4 ((rs.take i).drop f); omega)) ?_
        refine Ev.pos (by simp; omega) ?_
        have := ih (out ++ [⟨bs (((rs.take i).drop f).map Lib.toLowerU), (out.length : Int)⟩]) (by simp; omega)
        rw [if_neg hne, numb_cons]
        simpa using this
      · have : f = i := by omega
        subst this
        refine Ev.neg (by omega) ?_
        rw [if_pos (List.eq_nil_of_length_eq_zero (by omega))]
        exact ih out (by omega)
theorem rOf_ev {s : ByteArray} (hs : s.size ≤ 9223372036854775807) : Ev (fun k => grapevineref1_Of k s) (OfD s) := by
  unfold grapevineref1_Of
  rw [rMay_eq hs]
  cases h : (decide (s.size ≤ 120) && Lib.validD s.data.toList)
  · unfold OfD
    rw [h]
    refine Ev.name fun v hv => ?_
    subst hv
    exact Ev.pos (by simp) (Ev.now _)
  · simp only [Bool.and_eq_true, decide_eq_true_eq] at h
    obtain ⟨rs, hr, rfl⟩ := valid_bs h.2
    rw [bs_size] at h
    refine Ev.name fun v hv => ?_
    subst hv
    refine Ev.neg (by simp) ?_
    rw [runes_eq (by rw [bs_size]; omega), if_pos (bs_valid rs), runesOf_bs rs hr]
    refine Ev.name fun v hv => ?_
    have hel := enc_length rs
    rw [hv]
    refine Ev.pos (by simp; omega) ?_
    refine Ev.bind (rOf_loop rs hr h.1 (rs.length + 1) 0 0 [] (by omega) (by omega) (by simp) (by omega)) ?_
    refine (Ev.now _).is ?_
    rw [OfD_bs rs hr h.1, Wd_numb]
    simp only [List.take_zero, List.drop_nil, List.drop_zero, List.nil_append, List.length_nil]
    rw [runs_sep oth 32 oth32]
    simp [runs]

/-! ### one word -/
def oneD (s : ByteArray) : Bool := Lib.validD s.data.toList && (decide (runesOf s ≠ []) && (runesOf s).all fun r => !(oth r))
theorem One_ev {s : ByteArray} (hs : s.size ≤ 9223372036854775807) : tokens_One s = some (oneD s) := by
  unfold tokens_One oneD
  rw [valid_eq hs]
  by_cases h0 : s.data.toList = []
  · have : s = bs [] := by apply ByteArray.ext; apply Array.toList_inj.1; rw [h0, bs_toList]; rfl
    subst this
    rw [runesOf_bs [] (by simp)]
    simp [bs, enc]
  · have e0 : (!(s.toList == (⟨#[]⟩ : ByteArray).toList)) = true := by
      have hne : s ≠ (⟨#[]⟩ : ByteArray) := fun e => h0 (by rw [e])
      have : s.toList ≠ (⟨#[]⟩ : ByteArray).toList := fun e => hne ((toList_inj _ _).1 e)
      rw [Bool.not_eq_true', beq_eq_false_iff_ne]
      exact this
    rw [if_pos e0]
    cases hv : Lib.validD s.data.toList
    · simp
    · obtain ⟨rs, hr, rfl⟩ := valid_bs hv
      have hne : rs ≠ [] := fun e => h0 (by rw [e, bs_toList]; rfl)
      rw [runesOf_bs rs hr]
      unfold strings_ContainsFunc
      rw [if_pos other_ok, idxFunc_bs _ rs hr]
      have : (rs.any fun r => (tokens_other ((r.toNat : Nat) : Int)).getD false) = rs.any oth := by
        rw [Bool.eq_iff_iff, List.any_eq_true, List.any_eq_true]
        exact ⟨fun ⟨x, hx, h⟩ => ⟨x, hx, by rw [← other_get (hr x hx)]; exact h⟩, fun ⟨x, hx, h⟩ => ⟨x, hx, by rw [other_get (hr x hx)]; exact h⟩⟩
      simp only [Option.bind_some, if_true]
      rw [this, List.all_eq_not_any_not]
      simp [hne]
theorem rOne_loop (rs : List Int) (hr : ∀ r ∈ rs, Sc r) (hl : rs.length < 4294967296) : ∀ (n i : Nat), i + n = rs.length →
    Ev (fun k => grapevineref1_One_l0 rs k (i : Int)) (if (rs.drop i).all (fun r => !(oth r)) then Sum.inr () else Sum.inl false)
  | 0, i, hn => by
    refine Ev.step (fun k => by rw [grapevineref1_One_l0]) ?_
    refine Ev.neg (by omega) ?_
    refine (Ev.now _).is ?_
    rw [List.drop_eq_nil_of_le (by omega)]; simp
  | n + 1, i, hn => by
    have hi : i < rs.length := by omega
    refine Ev.step (fun k => by rw [grapevineref1_One_l0]) ?_
    refine Ev.pos (by omega) (Ev.pos (by omega) ?_)
    rw [show ((i : Nat) : Int).toNat = i by omega, rletter_eq (hr _ (getD_mem rs 0 hi)), drop_getD rs 0 hi]
    refine Ev.name fun v hv => ?_
    rw [List.all_cons]
    cases hq : oth (rs.getD i 0)
    · refine Ev.neg (by rw [hv, hq]; simp) ?_
      rw [i64w (by omega), show ((i : Nat) : Int) + 1 = ((i + 1 : Nat) : Int) by omega]
      have := rOne_loop rs hr hl n (i + 1) (by omega)
      simpa using this
    · refine Ev.pos (by rw [hv, hq]; simp) ?_
      exact (Ev.now _).is (by simp)
theorem rOne_ev {s : ByteArray} (hs : s.size < 4294967296) : Ev (fun k => grapevineref1_One k s) (oneD s) := by
  unfold grapevineref1_One oneD
  rw [runes_eq (by omega)]
  refine Ev.name fun v hv => ?_
  cases hv' : Lib.validD s.data.toList
  · rw [hv'] at hv
    simp only [Bool.false_eq_true, if_false] at hv
    rw [hv]
    refine Ev.bind (rOne_loop [] (by simp) (by simp) 0 0 (by simp)) ?_
    exact (Ev.now _).is (by simp)
  · obtain ⟨rs, hr, rfl⟩ := valid_bs hv'
    rw [hv', runesOf_bs rs hr] at hv
    simp only [if_true] at hv
    rw [hv, runesOf_bs rs hr]
    rw [bs_size] at hs
    have hel := enc_length rs
    refine Ev.bind (rOne_loop rs hr (by omega) rs.length 0 (by simp)) ?_
    rw [List.drop_zero]
    cases ha : rs.all fun r => !(oth r)
    · exact (Ev.now _).is (by simp)
    · refine (Ev.now _).is ?_
      by_cases hne : rs = []
      · subst hne; simp
      · have := List.length_pos_iff.2 hne
        simp [hne]; omega
end Go.Proofs.YtbphlohiealbeaaDoor.Pure
