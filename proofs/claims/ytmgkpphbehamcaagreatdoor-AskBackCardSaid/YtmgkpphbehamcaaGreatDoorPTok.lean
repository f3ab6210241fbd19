
import Derived.Test.YtmgkpphbehamcaaGreatDoorF0
import Derived.Test.YtmgkpphbehamcaaGreatDoorF2
import Derived.Test.YtmgkpphbehamcaaGreatDoorGgT
import Derived.Test.YtmgkpphbehamcaaGreatDoorGgP
namespace Go.Proofs.YtmgkpphbehamcaaGreatDoor.Pure
open Go Go.Gg Go.Gp Gf
set_option linter.unusedVariables false
set_option linter.unusedSimpArgs false
def oth (r : Int) : Bool := !(Lib.isLetterU r || Lib.isDigitU r)
def words (rs : List Int) : List ByteArray := (runs oth [] rs).map fun c => bs (c.map Lib.toLowerU)
theorem letter_eq {r : Int} (h : Sc r) : tokens_letter r = some (!(oth r)) := by
 unfold Sc at h; have hs : -2147483648 ≤ r ∧ r ≤ 2147483647 := by omega
 unfold tokens_letter unicode_IsLetter unicode_IsDigit oth; rw [if_pos hs, if_pos hs]
 cases Lib.isLetterU r <;> simp
theorem other_eq {r : Int} (h : -2147483648 ≤ r ∧ r ≤ 2147483647) : tokens_other r = some (oth r) := by
 unfold tokens_other tokens_letter unicode_IsLetter unicode_IsDigit oth; rw [if_pos h, if_pos h]
 cases Lib.isLetterU r <;> simp
theorem other_ok : RunesOk tokens_other := fun x hx => by rw [other_eq (by omega)]; rfl
theorem other_get {r : Int} (h : Sc r) : (tokens_other ((r.toNat : Nat) : Int)).getD false = oth r := by
 rw [sc_cast h, other_eq (by unfold Sc at h; omega)]; rfl
theorem valid_eq {s : ByteArray} (h : s.size ≤ 9223372036854775807) : utf8_ValidString s = some (Lib.validD s.data.toList) := by unfold utf8_ValidString; rw [if_pos h]
theorem May_eq {s : ByteArray} (h : s.size ≤ 9223372036854775807) : tokens_May s = some (decide (s.size ≤ 120) && Lib.validD s.data.toList) := by
 unfold tokens_May; rw [valid_eq h]; by_cases h1 : s.size ≤ 120
 ·rw [if_pos (by omega)]; simp [h1]
 ·rw [if_neg (by omega)]; simp [h1]
theorem Norm_eq {s : ByteArray} (h : s.size ≤ 35184372088832) : tokens_Norm s = some (normD s) := if_pos h
theorem normD_not {s : ByteArray} (h : Lib.validD s.data.toList = false) : normD s = ⟨#[]⟩ := by unfold normD; rw [if_neg (by simp [h])]
def oneD (s : ByteArray) : Bool := Lib.validD s.data.toList && (decide (runesOf s ≠ []) && (runesOf s).all fun r => !(oth r))
theorem One_ev {s : ByteArray} (hs : s.size ≤ 9223372036854775807) : tokens_One s = some (oneD s) := by
 unfold tokens_One oneD; rw [valid_eq hs]; by_cases h0 : s.data.toList = []
 ·have : s = bs [] := by apply ByteArray.ext; apply Array.toList_inj.1; rw [h0, bs_toList]; rfl
  subst this; rw [runesOf_bs [] (by simp)]; simp [bs, enc]
 ·have e0 : (!(s.toList == (⟨#[]⟩ : ByteArray).toList)) = true := by
   have hne : s ≠ (⟨#[]⟩ : ByteArray) := fun e => h0 (by rw [e])
   have : s.toList ≠ (⟨#[]⟩ : ByteArray).toList := fun e => hne ((toList_inj _ _).1 e)
   rw [Bool.not_eq_true', beq_eq_false_iff_ne]; exact this
  rw [if_pos e0]
  cases hv : Lib.validD s.data.toList
  ·simp
  ·obtain ⟨rs, hr, rfl⟩ := valid_bs hv; have hne : rs ≠ [] := fun e => h0 (by rw [e, bs_toList]; rfl)
   rw [runesOf_bs rs hr]; unfold strings_ContainsFunc; rw [if_pos other_ok, idxFunc_bs _ rs hr]; have : (rs.any fun r => (tokens_other ((r.toNat : Nat) : Int)).getD false) = rs.any oth := by
    rw [Bool.eq_iff_iff, List.any_eq_true, List.any_eq_true]; exact ⟨fun ⟨x, hx, h⟩ => ⟨x, hx, by rw [← other_get (hr x hx)]; exact h⟩, fun ⟨x, hx, h⟩ => ⟨x, hx, by rw [other_get (hr x hx)]; exact h⟩⟩
   simp only [Option.bind_some, if_true]; rw [this, List.all_eq_not_any_not]; simp [hne]
end Go.Proofs.YtmgkpphbehamcaaGreatDoor.Pure
