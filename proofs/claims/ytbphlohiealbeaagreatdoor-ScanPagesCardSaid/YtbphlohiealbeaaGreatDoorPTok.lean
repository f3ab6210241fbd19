
import Derived.Test.YtbphlohiealbeaaGreatDoorF0
import Derived.Test.YtbphlohiealbeaaGreatDoorF1
import Derived.Test.YtbphlohiealbeaaGreatDoorGgT
import Derived.Test.YtbphlohiealbeaaGreatDoorGgP
namespace Go.Proofs.YtbphlohiealbeaaGreatDoor.Pure
open Go Go.Gg Go.Gp Gf
set_option linter.unusedVariables false
set_option linter.unusedSimpArgs false
def oth (r : Int) : Bool := !(Lib.isLetterU r || Lib.isDigitU r)
def words (rs : List Int) : List ByteArray := (runs oth [] rs).map fun c => bs (c.map Lib.toLowerU)
def Wd (rs : List Int) : List T85 := (words rs).zipIdx.map fun x => ⟨x.1, (x.2 : Int)⟩
theorem Wd_length (rs : List Int) : (Wd rs).length = (words rs).length := by simp [Wd]
theorem letter_eq {r : Int} (h : Sc r) : tokens_letter r = some (!(oth r)) := by
 unfold Sc at h; have hs : -2147483648 ≤ r ∧ r ≤ 2147483647 := by omega
 unfold tokens_letter unicode_IsLetter unicode_IsDigit oth; rw [if_pos hs, if_pos hs]
 cases Lib.isLetterU r <;> simp
theorem other_eq {r : Int} (h : -2147483648 ≤ r ∧ r ≤ 2147483647) : tokens_other r = some (oth r) := by
 unfold tokens_other tokens_letter unicode_IsLetter unicode_IsDigit oth; rw [if_pos h, if_pos h]
 cases Lib.isLetterU r <;> simp
theorem other_ok : RunesOk tokens_other := fun x hx => by rw [other_eq (by omega)]; rfl
theorem other_get {r : Int} (h : Sc r) : (tokens_other ((r.toNat : Nat) : Int)).getD false = oth r := by
 rw [sc_cast h, other_eq (by unfold Sc at h; omega)]; rfl
theorem valid_eq {s : ByteArray} (h : s.size ≤ 9223372036854775807) : utf8_ValidString s = some (Lib.validD s.data.toList) := by unfold utf8_ValidString; rw [if_pos h]
theorem May_eq {s : ByteArray} (h : s.size ≤ 9223372036854775807) : tokens_May s = some (decide (s.size ≤ 120) && Lib.validD s.data.toList) := by
 unfold tokens_May; rw [valid_eq h]; by_cases h1 : s.size ≤ 120
 ·rw [if_pos (by omega)]; simp [h1]
 ·rw [if_neg (by omega)]; simp [h1]
theorem Norm_eq {s : ByteArray} (h : s.size ≤ 35184372088832) : tokens_Norm s = some (normD s) := if_pos h
theorem normD_not {s : ByteArray} (h : Lib.validD s.data.toList = false) : normD s = ⟨#[]⟩ := by unfold normD; rw [if_neg (by simp [h])]
theorem FieldsFunc_eq (rs : List Int) (hr : ∀ r ∈ rs, Sc r) (h : (enc rs).length ≤ 4294967296) : strings_FieldsFunc (bs rs) = some ((runs oth [] rs).map bs) := by
 unfold strings_FieldsFunc; rw [if_pos ⟨by rw [bs_size]; exact h, other_ok⟩, goFieldsP_bs _ oth (fun r h => other_get h) rs hr]
theorem runs_sum (q : Int → Bool) : ∀ (a cur : List Int), ((runs q cur a).map fun c => (enc c).length).sum ≤ (enc cur).length + (enc a).length
 | [], cur => by unfold runs; split <;> simp [enc]
 | r :: t, cur => by
  unfold runs; rw [enc_cons, List.length_append]
  split
  ·split
   ·have := runs_sum q t []; simp [enc_nil] at this; simp only [enc] at *; omega
   ·have := runs_sum q t []; simp only [List.map_cons, List.sum_cons]; simp only [enc_nil, List.length_nil] at this; omega
  ·have := runs_sum q t (cur ++ [r]); rw [enc_append, List.length_append, show enc [r] = Lib.encodeRune r by simp [enc]] at this; omega
theorem le_sum_of_mem : ∀ (l : List Nat) (x : Nat), x ∈ l → x ≤ l.sum
 | y :: t, x, h => by
  rcases List.mem_cons.1 h with rfl | h
  ·simp
  ·have := le_sum_of_mem t x h; simp; omega
theorem runs_len (q : Int → Bool) : ∀ (a cur : List Int), (runs q cur a).length ≤ cur.length + a.length
 | [], cur => by
  unfold runs
  split
  ·simp
  ·rename_i h; have := List.length_pos_iff.2 h; simp; omega
 | r :: t, cur => by
  unfold runs
  split
  ·split
   ·have := runs_len q t []; simp at this ⊢; omega
   ·rename_i h; have := runs_len q t []; have := List.length_pos_iff.2 h; simp at *; omega
  ·have := runs_len q t (cur ++ [r]); simp at this ⊢; omega
theorem run_small {rs : List Int} {c : List Int} (hc : c ∈ runs oth [] rs) : (enc c).length ≤ (enc rs).length := by
 have h1 := runs_sum oth rs []; have h2 := le_sum_of_mem _ _ (List.mem_map.2 ⟨c, hc, rfl⟩ : (enc c).length ∈ (runs oth [] rs).map fun c => (enc c).length); simp only [enc_nil, List.length_nil] at h1; omega
theorem zipIdx_take {α : Type} (l : List α) (d : α) {i : Nat} (h : i < l.length) : (l.take (i + 1)).zipIdx = (l.take i).zipIdx ++ [(l.getD i d, i)] := by
 rw [take_getD l d h, List.zipIdx_append]; simp [Nat.min_eq_left (show i ≤ l.length by omega)]
theorem Of_bs (rs : List Int) (hr : ∀ r ∈ rs, Sc r) (h : (enc rs).length ≤ 120) : Ev (fun k => tokens_Of k (bs rs)) (Wd rs) := by
 unfold tokens_Of; rw [May_eq (by rw [bs_size]; omega), FieldsFunc_eq rs hr (by omega)]; rw [show (decide ((bs rs).size ≤ 120) && Lib.validD (bs rs).data.toList) = true by rw [bs_valid, bs_size]; simp [h]]; refine Ev.name fun v hv => ?_
 subst hv; refine Ev.neg (by simp) ?_; refine Ev.name fun v hv => ?_
 have hvl : v.length = (runs oth [] rs).length := by rw [hv]; simp
 have hrl := runs_len oth rs []; have hel := enc_length rs; simp at hrl; have hsc := runs_mem oth (P := Sc) rs [] (by simp) hr; have key := Ev.count (F := fun k (s : List T85) i => tokens_Of_l0 v k s i) (r := Wd rs) (fun i => ((words rs).take i).zipIdx.map fun x => ⟨x.1, (x.2 : Int)⟩) v.length (fun i hi r H => by
  have hi' : i < (runs oth [] rs).length := by omega
  refine Ev.step (fun k => by rw [tokens_Of_l0]) ?_; refine Ev.pos (by omega) (Ev.pos (by omega) ?_); refine Ev.name fun w hw => ?_
  have hm := getD_mem (runs oth [] rs) [] hi'; have hw2 : w = bs ((runs oth [] rs).getD i []) := by
   rw [hw, hv, show ((i : Nat) : Int).toNat = i by omega, getD_eq _ _ (by simpa using hi'), getD_eq _ _ hi']; simp
  have hsm := run_small hm; rw [hw2, Norm_eq (by rw [bs_size]; omega), normD_bs _ (hsc _ hm).2]; refine Ev.name fun u hu => ?_
  have hwl : (words rs).length = (runs oth [] rs).length := by simp [words]
  have hun : u = (words rs).getD i ⟨#[]⟩ := by
   rw [hu, getD_eq _ _ hi', getD_eq _ _ (by omega)]; simp [words]
  refine Ev.pos (by simp; omega) ?_; have e : (((words rs).take i).zipIdx.map fun x => (⟨x.1, (x.2 : Int)⟩ : T85)) ++ [(⟨u, (i : Int)⟩ : T85)] = ((words rs).take (i + 1)).zipIdx.map fun x => (⟨x.1, (x.2 : Int)⟩ : T85) := by
   rw [zipIdx_take (words rs) ⟨#[]⟩ (by omega), List.map_append, hun]; simp
  rw [e, i64w (by omega), show ((i : Nat) : Int) + 1 = ((i + 1 : Nat) : Int) by omega]; exact H) (by
   refine Ev.step (fun k => by rw [tokens_Of_l0]) ?_; refine Ev.neg (by omega) ?_; have hwl : (words rs).length = v.length := by rw [hvl]; simp [words]
   exact (Ev.now _).is (by rw [← hwl, List.take_length]; rfl))
 exact Ev.bind key (Ev.now _)
theorem Of_not {s : ByteArray} (hs : s.size ≤ 9223372036854775807) (h : (decide (s.size ≤ 120) && Lib.validD s.data.toList) = false) : Ev (fun k => tokens_Of k s) [] := by
 unfold tokens_Of; rw [May_eq hs, h]; refine Ev.name fun v hv => ?_
 subst hv; exact Ev.pos (by simp) (Ev.now _)
def OfD (s : ByteArray) : List T85 := if decide (s.size ≤ 120) && Lib.validD s.data.toList then Wd (runesOf s) else []
theorem OfD_bs (rs : List Int) (hr : ∀ r ∈ rs, Sc r) (h : (enc rs).length ≤ 120) : OfD (bs rs) = Wd rs := by
 unfold OfD; rw [if_pos (by rw [bs_valid, bs_size]; simp [h]), runesOf_bs rs hr]
theorem Of_ev {s : ByteArray} (hs : s.size ≤ 9223372036854775807) : Ev (fun k => tokens_Of k s) (OfD s) := by
 cases h : (decide (s.size ≤ 120) && Lib.validD s.data.toList)
 ·unfold OfD; rw [h]; exact Of_not hs h
 ·simp only [Bool.and_eq_true, decide_eq_true_eq] at h; obtain ⟨rs, hr, rfl⟩ := valid_bs h.2; rw [bs_size] at h; rw [OfD_bs rs hr h.1]; exact Of_bs rs hr h.1
theorem oth32 : oth 32 = true := by decide +kernel
def numb (n : Nat) (ws : List (List Int)) : List T85 := ((ws.map fun c => bs (c.map Lib.toLowerU)).zipIdx n).map fun x => ⟨x.1, (x.2 : Int)⟩
theorem numb_nil (n : Nat) : numb n [] = [] := rfl
theorem numb_cons (n : Nat) (c : List Int) (ws : List (List Int)) : numb n (c :: ws) = ⟨bs (c.map Lib.toLowerU), (n : Int)⟩ :: numb (n + 1) ws := by simp [numb]
theorem Wd_numb (rs : List Int) : Wd rs = numb 0 (runs oth [] rs) := rfl
def oneD (s : ByteArray) : Bool := Lib.validD s.data.toList && (decide (runesOf s ≠ []) && (runesOf s).all fun r => !(oth r))
theorem One_ev {s : ByteArray} (hs : s.size ≤ 9223372036854775807) : tokens_One s = some (oneD s) := by
 unfold tokens_One oneD; rw [valid_eq hs]; by_cases h0 : s.data.toList = []
 ·have : s = bs [] := by apply ByteArray.ext; apply Array.toList_inj.1; rw [h0, bs_toList]; rfl
  subst this; rw [runesOf_bs [] (by simp)]; simp [bs, enc]
 ·have e0 : (!(s.toList == (⟨#[]⟩ : ByteArray).toList)) = true := by
   have hne : s ≠ (⟨#[]⟩ : ByteArray) := fun e => h0 (by rw [e])
   have : s.toList ≠ (⟨#[]⟩ : ByteArray).toList := fun e => hne ((toList_inj _ _).1 e)
   rw [Bool.not_eq_true', beq_eq_false_iff_ne]; exact this
  rw [if_pos e0]
  cases hv : Lib.validD s.data.toList
  ·simp
  ·obtain ⟨rs, hr, rfl⟩ := valid_bs hv; have hne : rs ≠ [] := fun e => h0 (by rw [e, bs_toList]; rfl)
   rw [runesOf_bs rs hr]; unfold strings_ContainsFunc; rw [if_pos other_ok, idxFunc_bs _ rs hr]; have : (rs.any fun r => (tokens_other ((r.toNat : Nat) : Int)).getD false) = rs.any oth := by
    rw [Bool.eq_iff_iff, List.any_eq_true, List.any_eq_true]; exact ⟨fun ⟨x, hx, h⟩ => ⟨x, hx, by rw [← other_get (hr x hx)]; exact h⟩, fun ⟨x, hx, h⟩ => ⟨x, hx, by rw [other_get (hr x hx)]; exact h⟩⟩
   simp only [Option.bind_some, if_true]; rw [this, List.all_eq_not_any_not]; simp [hne]
end Go.Proofs.YtbphlohiealbeaaGreatDoor.Pure
