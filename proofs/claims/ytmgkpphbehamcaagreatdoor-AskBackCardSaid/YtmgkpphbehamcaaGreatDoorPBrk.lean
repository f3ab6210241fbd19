/- A text in brackets is read as it is. -/
import Derived.Test.YtmgkpphbehamcaaGreatDoorPLim
namespace Go.Proofs.YtmgkpphbehamcaaGreatDoor.Pure
open Go Go.Gg Go.Gp Gf
set_option linter.unusedVariables false
set_option linter.unusedSimpArgs false
theorem told_pre {it w : List UInt8} {n : Int} (h : toldL it w = some n) : ∃ d, it = w ++ d ∧ d ≠ [] ∧ ∀ b ∈ d, digs.contains b = true := by
 unfold toldL at h
 split at h
 case isFalse => cases h
 rename_i hp
 have hpre : w <+: it := by simpa [Lib.hasPrefix] using hp
 obtain ⟨t, rfl⟩ := hpre; rw [List.drop_left] at h; refine ⟨t, rfl, fun e => ?_, numL_digs h⟩; subst e
 cases h
theorem ok_parts {s : List UInt8} (h : okP s = true) : s.length ≤ 200 ∧ (rdP s).1.bad = false ∧ (rdP s).1.over = true ∧ mayQB 700 (rdP s).2 = true := by
 unfold okP at h; rw [Bool.and_eq_true, Bool.and_eq_true, Bool.and_eq_true, Bool.not_eq_true', decide_eq_true_eq] at h; exact ⟨h.1, h.2.1, h.2.2.1, h.2.2.2⟩
theorem ok_run {s : List UInt8} (h : okP s = true) : (runP s).2.bad = false := by
 obtain ⟨_, h2, _, _⟩ := ok_parts h
 cases hq : (runP s).2.bad with
 | false => rfl
 | true => have := end_bad (qOf (runP s).1) hq; unfold rdP at h2; rw [this] at h2; cases h2
theorem rd_ask (s : List UInt8) : askOf (rdP s).2 = (runP s).1 := (end_ask _ _).trans (eta26 _)
theorem loop_end (one : PS → T26 × PS) (w : List UInt8) (hw : w ≠ []) (n : Nat) (hn : 1 ≤ n) (l : List T26) {p : PS} (h : nextP p ≠ w) : loopP one w n l p = (l, p) := by
 obtain ⟨m, rfl⟩ : ∃ m, n = m + 1 := ⟨n - 1, by omega⟩; rw [loopP, if_neg (fun e => h e.2)]
end Go.Proofs.YtmgkpphbehamcaaGreatDoor.Pure
