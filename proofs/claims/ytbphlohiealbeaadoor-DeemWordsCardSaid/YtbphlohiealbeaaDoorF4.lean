/- Walks of Go functions: what each tells, as a plain Lean function, and that the Go code comes to it. Written by gg.py of this repo. -/
import Derived.Test.YtbphlohiealbeaaDoorT
import Derived.Test.YtbphlohiealbeaaDoorF3
namespace Go.Proofs.YtbphlohiealbeaaDoor.Gf
open Go Go.Gg
set_option maxRecDepth 100000
set_option linter.unusedVariables false
set_option linter.unusedSimpArgs false

/-! ### grapevine/grapevineref14.form: function 53 -/
def grapevineref14_form_l0 (a0 : T25) (rec_ : T25 → Option Bool) : Nat → Int → Option (Sum Bool Unit)
  | 0, _ => none
  | k + 1, y38 => (if y38 < (a0.f3.length : Int) then (if 0 ≤ y38 ∧ y38 < (a0.f3.length : Int) then ((rec_ (a0.f3.getD y38.toNat z25)).bind fun t45 => (if (!t45) = true then some (Sum.inl false) else grapevineref14_form_l0 a0 rec_ k (IntKind.i64.wrap (y38 + 1)))) else none) else some (Sum.inr ()))
def grapevineref14_form_l1 (a0 : T25) (rec_ : T25 → Option Bool) : Nat → Int → Option (Sum Bool Unit)
  | 0, _ => none
  | k + 1, y58 => (if y58 < (a0.f3.length : Int) then (if 0 ≤ y58 ∧ y58 < (a0.f3.length : Int) then ((rec_ (a0.f3.getD y58.toNat z25)).bind fun t65 => (if (!t65) = true then some (Sum.inl false) else grapevineref14_form_l1 a0 rec_ k (IntKind.i64.wrap (y58 + 1)))) else none) else some (Sum.inr ()))
def grapevineref14_form_l2 (a0 : T25) (rec_ : T25 → Option Bool) : Nat → Int → Option (Sum Bool Unit)
  | 0, _ => none
  | k + 1, y77 => (if y77 < (a0.f3.length : Int) then (if 0 ≤ y77 ∧ y77 < (a0.f3.length : Int) then ((rec_ (a0.f3.getD y77.toNat z25)).bind fun t84 => (if (!t84) = true then some (Sum.inl false) else grapevineref14_form_l2 a0 rec_ k (IntKind.i64.wrap (y77 + 1)))) else none) else some (Sum.inr ()))
def grapevineref14_form_l3 (a0 : T25) (rec_ : T25 → Option Bool) : Nat → Int → Option (Sum Bool Unit)
  | 0, _ => none
  | k + 1, y102 => (if y102 < (a0.f3.length : Int) then (if 0 ≤ y102 ∧ y102 < (a0.f3.length : Int) then ((rec_ (a0.f3.getD y102.toNat z25)).bind fun t109 => (if (!t109) = true then some (Sum.inl false) else grapevineref14_form_l3 a0 rec_ k (IntKind.i64.wrap (y102 + 1)))) else none) else some (Sum.inr ()))
def grapevineref14_form_l4 (a0 : T25) (rec_ : T25 → Option Bool) : Nat → Int → Option (Sum Bool Unit)
  | 0, _ => none
  | k + 1, y122 => (if y122 < (a0.f3.length : Int) then (if 0 ≤ y122 ∧ y122 < (a0.f3.length : Int) then ((rec_ (a0.f3.getD y122.toNat z25)).bind fun t129 => (if (!t129) = true then some (Sum.inl false) else grapevineref14_form_l4 a0 rec_ k (IntKind.i64.wrap (y122 + 1)))) else none) else some (Sum.inr ()))
def grapevineref14_form_l5 (a0 : T25) (rec_ : T25 → Option Bool) : Nat → Int → Option (Sum Bool Unit)
  | 0, _ => none
  | k + 1, y141 => (if y141 < (a0.f3.length : Int) then (if 0 ≤ y141 ∧ y141 < (a0.f3.length : Int) then ((rec_ (a0.f3.getD y141.toNat z25)).bind fun t148 => (if (!t148) = true then some (Sum.inl false) else grapevineref14_form_l5 a0 rec_ k (IntKind.i64.wrap (y141 + 1)))) else none) else some (Sum.inr ()))
def grapevineref14_form_l6 (a0 : T25) (rec_ : T25 → Option Bool) : Nat → Int → Option (Sum Bool Unit)
  | 0, _ => none
  | k + 1, y191 => (if y191 < (a0.f3.length : Int) then (if 0 ≤ y191 ∧ y191 < (a0.f3.length : Int) then ((rec_ (a0.f3.getD y191.toNat z25)).bind fun t198 => (if (!t198) = true then some (Sum.inl false) else grapevineref14_form_l6 a0 rec_ k (IntKind.i64.wrap (y191 + 1)))) else none) else some (Sum.inr ()))
def grapevineref14_form_l7 (a0 : T25) (rec_ : T25 → Option Bool) : Nat → Int → Option (Sum Bool Unit)
  | 0, _ => none
  | k + 1, y211 => (if y211 < (a0.f3.length : Int) then (if 0 ≤ y211 ∧ y211 < (a0.f3.length : Int) then ((rec_ (a0.f3.getD y211.toNat z25)).bind fun t218 => (if (!t218) = true then some (Sum.inl false) else grapevineref14_form_l7 a0 rec_ k (IntKind.i64.wrap (y211 + 1)))) else none) else some (Sum.inr ()))
def grapevineref14_form_l8 (a0 : T25) (rec_ : T25 → Option Bool) : Nat → Int → Option (Sum Bool Unit)
  | 0, _ => none
  | k + 1, y230 => (if y230 < (a0.f3.length : Int) then (if 0 ≤ y230 ∧ y230 < (a0.f3.length : Int) then ((rec_ (a0.f3.getD y230.toNat z25)).bind fun t237 => (if (!t237) = true then some (Sum.inl false) else grapevineref14_form_l8 a0 rec_ k (IntKind.i64.wrap (y230 + 1)))) else none) else some (Sum.inr ()))
def grapevineref14_form_l9 (a0 : T25) (rec_ : T25 → Option Bool) : Nat → Int → Option (Sum Bool Unit)
  | 0, _ => none
  | k + 1, y255 => (if y255 < (a0.f3.length : Int) then (if 0 ≤ y255 ∧ y255 < (a0.f3.length : Int) then ((rec_ (a0.f3.getD y255.toNat z25)).bind fun t262 => (if (!t262) = true then some (Sum.inl false) else grapevineref14_form_l9 a0 rec_ k (IntKind.i64.wrap (y255 + 1)))) else none) else some (Sum.inr ()))
def grapevineref14_form_l10 (a0 : T25) (rec_ : T25 → Option Bool) : Nat → Int → Option (Sum Bool Unit)
  | 0, _ => none
  | k + 1, y275 => (if y275 < (a0.f3.length : Int) then (if 0 ≤ y275 ∧ y275 < (a0.f3.length : Int) then ((rec_ (a0.f3.getD y275.toNat z25)).bind fun t282 => (if (!t282) = true then some (Sum.inl false) else grapevineref14_form_l10 a0 rec_ k (IntKind.i64.wrap (y275 + 1)))) else none) else some (Sum.inr ()))
def grapevineref14_form_l11 (a0 : T25) (rec_ : T25 → Option Bool) : Nat → Int → Option (Sum Bool Unit)
  | 0, _ => none
  | k + 1, y294 => (if y294 < (a0.f3.length : Int) then (if 0 ≤ y294 ∧ y294 < (a0.f3.length : Int) then ((rec_ (a0.f3.getD y294.toNat z25)).bind fun t301 => (if (!t301) = true then some (Sum.inl false) else grapevineref14_form_l11 a0 rec_ k (IntKind.i64.wrap (y294 + 1)))) else none) else some (Sum.inr ()))
def grapevineref14_form : Nat → T25 → Option Bool
  | 0, _ => none
  | k + 1, a0 => (if a0.f0 = 1 then (if a0.f0 = 1 then ((if a0.f1 = 0 then (if (a0.f3.length : Int) = 0 then ((grapevineref14_words k a0.f2 1 1).bind fun t8 => some t8) else some false) else some false).bind fun s4 => some s4) else (if a0.f0 = 3 then ((if a0.f1 = 0 then (if (a0.f3.length : Int) = 0 then ((grapevineref14_words k a0.f2 1 16).bind fun t17 => some t17) else some false) else some false).bind fun s13 => some s13) else (if a0.f0 = 4 then ((if (a0.f2.length : Int) = 0 then (if (a0.f3.length : Int) = 0 then (if a0.f1 ≥ 0 then some (decide (a0.f1 < 8)) else some false) else some false) else some false).bind fun s22 => some s22) else (if a0.f0 = 5 then (if a0.f0 = 5 then ((if (a0.f2.length : Int) = 0 then (if (a0.f3.length : Int) = 0 then (if a0.f1 ≥ 0 then some (decide (a0.f1 ≤ 1099511627776)) else some false) else some false) else some false).bind fun s29 => some s29) else (if a0.f0 = 9 then (if ¬ (a0.f3.length : Int) = 1 then some false else ((grapevineref14_form_l0 a0 (grapevineref14_form k) k 0).bind fun os36 => match os36 with | Sum.inl r => some r | Sum.inr s36 => ((if a0.f1 = 0 then some ((a0.f2.length : Int) == 0) else some false).bind fun s50 => some s50))) else (if a0.f0 = 7 then (if a0.f0 = 7 then (if (a0.f3.length : Int) < 2 then some false else ((grapevineref14_form_l1 a0 (grapevineref14_form k) k 0).bind fun os56 => match os56 with | Sum.inl r => some r | Sum.inr s56 => ((if a0.f1 = 0 then some ((a0.f2.length : Int) == 0) else some false).bind fun s70 => some s70))) else some false) else (if a0.f0 = 8 then (if (a0.f3.length : Int) < 2 then some false else ((grapevineref14_form_l2 a0 (grapevineref14_form k) k 0).bind fun os75 => match os75 with | Sum.inl r => some r | Sum.inr s75 => ((if a0.f1 = 0 then some ((a0.f2.length : Int) == 0) else some false).bind fun s89 => some s89))) else some false)))) else (if a0.f0 = 6 then ((if (a0.f2.length : Int) = 0 then (if (a0.f3.length : Int) = 0 then (if a0.f1 ≥ 0 then some (decide (a0.f1 ≤ 1099511627776)) else some false) else some false) else some false).bind fun s93 => some s93) else (if a0.f0 = 9 then (if ¬ (a0.f3.length : Int) = 1 then some false else ((grapevineref14_form_l3 a0 (grapevineref14_form k) k 0).bind fun os100 => match os100 with | Sum.inl r => some r | Sum.inr s100 => ((if a0.f1 = 0 then some ((a0.f2.length : Int) == 0) else some false).bind fun s114 => some s114))) else (if a0.f0 = 7 then (if a0.f0 = 7 then (if (a0.f3.length : Int) < 2 then some false else ((grapevineref14_form_l4 a0 (grapevineref14_form k) k 0).bind fun os120 => match os120 with | Sum.inl r => some r | Sum.inr s120 => ((if a0.f1 = 0 then some ((a0.f2.length : Int) == 0) else some false).bind fun s134 => some s134))) else some false) else (if a0.f0 = 8 then (if (a0.f3.length : Int) < 2 then some false else ((grapevineref14_form_l5 a0 (grapevineref14_form k) k 0).bind fun os139 => match os139 with | Sum.inl r => some r | Sum.inr s139 => ((if a0.f1 = 0 then some ((a0.f2.length : Int) == 0) else some false).bind fun s153 => some s153))) else some false)))))))) else (if a0.f0 = 2 then ((if a0.f1 = 0 then (if (a0.f3.length : Int) = 0 then ((grapevineref14_words k a0.f2 1 1).bind fun t161 => some t161) else some false) else some false).bind fun s157 => some s157) else (if a0.f0 = 3 then ((if a0.f1 = 0 then (if (a0.f3.length : Int) = 0 then ((grapevineref14_words k a0.f2 1 16).bind fun t170 => some t170) else some false) else some false).bind fun s166 => some s166) else (if a0.f0 = 4 then ((if (a0.f2.length : Int) = 0 then (if (a0.f3.length : Int) = 0 then (if a0.f1 ≥ 0 then some (decide (a0.f1 < 8)) else some false) else some false) else some false).bind fun s175 => some s175) else (if a0.f0 = 5 then (if a0.f0 = 5 then ((if (a0.f2.length : Int) = 0 then (if (a0.f3.length : Int) = 0 then (if a0.f1 ≥ 0 then some (decide (a0.f1 ≤ 1099511627776)) else some false) else some false) else some false).bind fun s182 => some s182) else (if a0.f0 = 9 then (if ¬ (a0.f3.length : Int) = 1 then some false else ((grapevineref14_form_l6 a0 (grapevineref14_form k) k 0).bind fun os189 => match os189 with | Sum.inl r => some r | Sum.inr s189 => ((if a0.f1 = 0 then some ((a0.f2.length : Int) == 0) else some false).bind fun s203 => some s203))) else (if a0.f0 = 7 then (if a0.f0 = 7 then (if (a0.f3.length : Int) < 2 then some false else ((grapevineref14_form_l7 a0 (grapevineref14_form k) k 0).bind fun os209 => match os209 with | Sum.inl r => some r | Sum.inr s209 => ((if a0.f1 = 0 then some ((a0.f2.length : Int) == 0) else some false).bind fun s223 => some s223))) else some false) else (if a0.f0 = 8 then (if (a0.f3.length : Int) < 2 then some false else ((grapevineref14_form_l8 a0 (grapevineref14_form k) k 0).bind fun os228 => match os228 with | Sum.inl r => some r | Sum.inr s228 => ((if a0.f1 = 0 then some ((a0.f2.length : Int) == 0) else some false).bind fun s242 => some s242))) else some false)))) else (if a0.f0 = 6 then ((if (a0.f2.length : Int) = 0 then (if (a0.f3.length : Int) = 0 then (if a0.f1 ≥ 0 then some (decide (a0.f1 ≤ 1099511627776)) else some false) else some false) else some false).bind fun s246 => some s246) else (if a0.f0 = 9 then (if ¬ (a0.f3.length : Int) = 1 then some false else ((grapevineref14_form_l9 a0 (grapevineref14_form k) k 0).bind fun os253 => match os253 with | Sum.inl r => some r | Sum.inr s253 => ((if a0.f1 = 0 then some ((a0.f2.length : Int) == 0) else some false).bind fun s267 => some s267))) else (if a0.f0 = 7 then (if a0.f0 = 7 then (if (a0.f3.length : Int) < 2 then some false else ((grapevineref14_form_l10 a0 (grapevineref14_form k) k 0).bind fun os273 => match os273 with | Sum.inl r => some r | Sum.inr s273 => ((if a0.f1 = 0 then some ((a0.f2.length : Int) == 0) else some false).bind fun s287 => some s287))) else some false) else (if a0.f0 = 8 then (if (a0.f3.length : Int) < 2 then some false else ((grapevineref14_form_l11 a0 (grapevineref14_form k) k 0).bind fun os292 => match os292 with | Sum.inl r => some r | Sum.inr s292 => ((if a0.f1 = 0 then some ((a0.f2.length : Int) == 0) else some false).bind fun s306 => some s306))) else some false)))))))))
set_option maxHeartbeats 4000000 in
theorem grapevineref14_form_calls_k (k : Nat) : ∀ {B : World} {G : GMap} {Γ : List Chunk} {W : World} (HT : Tabs B G) (a0 : T25) (Aa0_f2 : Option Addr) (ca0_f2 : Nat) (Ha0_f2 : Rd kStr G Aa0_f2 ca0_f2 a0.f2) (Aa0_f3 : Option Addr) (ca0_f3 : Nat) (Ha0_f3 : Rd k25 G Aa0_f3 ca0_f3 a0.f3) (r : Bool) (h : grapevineref14_form k a0 = some r) (hI : Inv B G (Γ) W),
    Calls Tryd.prog 53 [.agg #[.int .i64 a0.f0, .int .i64 a0.f1, .slice Aa0_f2 a0.f2.length ca0_f2, .slice Aa0_f3 a0.f3.length ca0_f3]].toArray W (Ret B (fun v G' Γ' => v = .bool r ∧ G = G' ∧ Γ = Γ')) := by
  induction k with
  | zero => intro B G Γ W HT a0 Aa0_f2 ca0_f2 Ha0_f2 Aa0_f3 ca0_f3 Ha0_f3 r h hI; exact absurd h (by simp [grapevineref14_form])
  | succ kf ih =>
    intro B G Γ W HT a0 Aa0_f2 ca0_f2 Ha0_f2 Aa0_f3 ca0_f3 Ha0_f3 r h hI
    refine calls_WP (Γ := Γ) (G := G) (B := B) Tryd.func53 rfl (by kernel_rfl) ?_ hI
    clear hI
    simp only [grapevineref14_form] at h
    refine WP.seqR ?_
    refine WL.op (op := .box 25 (.tmp 0)) (ty := 0) (d := some 1) (g := none) (by kernel_rfl) (by kernel_rfl) (by kernel_rfl) (Does.new (o := .cells #[.int .i64 a0.f0, .int .i64 a0.f1, .slice Aa0_f2 a0.f2.length ca0_f2, .slice Aa0_f3 a0.f3.length ca0_f3] 25 (0, 0)) (v := fun r => .pointer (some ⟨r, 0, none⟩)) (fun r => by kernel_rfl)) ?_
    rintro _ _ _ ⟨b1, rfl, rfl, rfl⟩
    refine WL.restQ 1 [1] (L' := [(1, .pointer (some ⟨b1, 0, none⟩))]) (by kernel_rfl) ?_
    refine WP.seq ?_
    refine WP.any (N := 14) (S := [⟨some 7, [1], []⟩, ⟨some 8, [7], [0]⟩, ⟨some 9, [8], [1]⟩, ⟨some 10, [1], []⟩, ⟨some 11, [10], [3]⟩, ⟨some 12, [11], [4]⟩, ⟨some 13, [12], [5]⟩, ⟨some 14, [1], []⟩, ⟨some 15, [14], [7]⟩, ⟨some 16, [15], [8]⟩, ⟨some 17, [16], [9]⟩, ⟨some 3, [9], [0, 1, 2]⟩, ⟨some 4, [13], [0, 1, 2, 3, 4, 5, 6, 11]⟩, ⟨some 5, [17], [0, 1, 2, 3, 4, 5, 6, 7, 8, 9, 10, 11, 12]⟩]) (kw := 14) (G0 := G) (Γ0 := [(b1, .cells #[.int .i64 a0.f0, .int .i64 a0.f1, .slice Aa0_f2 a0.f2.length ca0_f2, .slice Aa0_f3 a0.f3.length ca0_f3] 25 (0, 0))] :: Γ) mo (by kernel_rfl) (fun hS => ?_)
    refine WA.pure [0, 3, 7] [1, 7, 10, 14] (m := 11) (b' := 137) (L' := [(1, .pointer (some ⟨b1, 0, none⟩)), (7, .pointer (some ⟨b1, 1, none⟩)), (10, .pointer (some ⟨b1, 2, none⟩)), (14, .pointer (some ⟨b1, 3, none⟩))]) (by kernel_rfl) (NoPanic.then (NoPanic.body)) Under.refl hS (by kernel_rfl) ?_
    refine WA.tellD [] (i := 1) (m := 10) (b' := 139) (by kernel_rfl) (NoPanic.then (NoPanic.body)) Under.refl hS (by kernel_rfl) (op := .load 3 (.tmp 7)) (ty := 3) (d := some 8) (g := none) (by kernel_rfl) (by kernel_rfl) (by kernel_rfl) (Tells.load_box (i := 0) (b := b1) (o := 1) (agg := false) (by rfl) ag3 (by kernel_rfl) (fun _ => rfl) (Nat.le_of_ble_eq_true rfl) (v := .int .i64 a0.f1) (by kernel_rfl)) ?_
    refine WA.pure [2, 11] [1, 3, 10, 14] (m := 8) (b' := 2191) (L' := [(1, .pointer (some ⟨b1, 0, none⟩)), (3, .bool (a0.f1 == 0)), (10, .pointer (some ⟨b1, 2, none⟩)), (14, .pointer (some ⟨b1, 3, none⟩))]) (by kernel_rfl) (NoPanic.then (NoPanic.body)) Under.refl hS (by kernel_rfl) ?_
    refine WA.tellD [] (i := 4) (m := 7) (b' := 2207) (by kernel_rfl) (NoPanic.then (NoPanic.body)) Under.refl hS (by kernel_rfl) (op := .load 22 (.tmp 10)) (ty := 22) (d := some 11) (g := none) (by kernel_rfl) (by kernel_rfl) (by kernel_rfl) (Tells.load_box (i := 0) (b := b1) (o := 2) (agg := false) (by rfl) ag22 (by kernel_rfl) (fun _ => rfl) (Nat.le_of_ble_eq_true rfl) (v := .slice Aa0_f2 a0.f2.length ca0_f2) (by kernel_rfl)) ?_
    refine WA.pure [5, 6, 12] [1, 3, 4, 14] (m := 4) (b' := 6399) (L' := [(1, .pointer (some ⟨b1, 0, none⟩)), (3, .bool (a0.f1 == 0)), (4, .bool ((a0.f2.length : Int) == 0)), (14, .pointer (some ⟨b1, 3, none⟩))]) (by kernel_rfl) (NoPanic.then (NoPanic.body)) Under.refl hS (by kernel_rfl) ?_
    refine WA.tellD [] (i := 8) (m := 3) (b' := 6655) (by kernel_rfl) (NoPanic.then (NoPanic.body)) Under.refl hS (by kernel_rfl) (op := .load 23 (.tmp 14)) (ty := 23) (d := some 15) (g := none) (by kernel_rfl) (by kernel_rfl) (by kernel_rfl) (Tells.load_box (i := 0) (b := b1) (o := 3) (agg := false) (by rfl) ag23 (by kernel_rfl) (fun _ => rfl) (Nat.le_of_ble_eq_true rfl) (v := .slice Aa0_f3 a0.f3.length ca0_f3) (by kernel_rfl)) ?_
    refine WA.pure [9, 10, 13] [1, 3, 4, 5] (m := 0) (b' := 16383) (L' := [(1, .pointer (some ⟨b1, 0, none⟩)), (3, .bool (a0.f1 == 0)), (4, .bool ((a0.f2.length : Int) == 0)), (5, .bool ((a0.f3.length : Int) == 0))]) (by kernel_rfl) (NoPanic.then (NoPanic.body)) Under.refl hS (by kernel_rfl) ?_
    refine WA.done hS (by kernel_rfl) ?_
    refine QP.pick [1, 3, 4, 5] ?_
    refine QP.next ?_
    refine WP.seq ?_
    refine WP.seqR ?_
    refine WL.pure 0 1 [1, 3, 4, 5, 18] (L' := [(1, .pointer (some ⟨b1, 0, none⟩)), (3, .bool (a0.f1 == 0)), (4, .bool ((a0.f2.length : Int) == 0)), (5, .bool ((a0.f3.length : Int) == 0)), (18, .pointer (some ⟨b1, 0, none⟩))]) (by kernel_rfl) (by decide) ?_
    refine WL.tell (op := .load 3 (.tmp 18)) (ty := 3) (d := some 19) (g := none) (by kernel_rfl) (by kernel_rfl) (by kernel_rfl) (Tells.load_box (i := 0) (b := b1) (o := 0) (agg := false) (by rfl) ag3 (by kernel_rfl) (fun _ => rfl) (Nat.le_of_ble_eq_true rfl) (v := .int .i64 a0.f0) (by kernel_rfl)) ?_
    refine WL.restQ 2 [1, 3, 4, 5, 19] (L' := [(1, .pointer (some ⟨b1, 0, none⟩)), (3, .bool (a0.f1 == 0)), (4, .bool ((a0.f2.length : Int) == 0)), (5, .bool ((a0.f3.length : Int) == 0)), (19, .int .i64 a0.f0)]) (by kernel_rfl) ?_
    refine WP.block ?_
    refine WP.seq ?_
    refine WP.seqP [1, 3, 4, 5, 19, 20] (L' := [(1, .pointer (some ⟨b1, 0, none⟩)), (3, .bool (a0.f1 == 0)), (4, .bool ((a0.f2.length : Int) == 0)), (5, .bool ((a0.f3.length : Int) == 0)), (19, .int .i64 a0.f0), (20, .bool (a0.f0 == 1))]) (by kernel_rfl) ?_
    refine WP.cond (b := (a0.f0 == 1)) (by kernel_rfl) (fun hc => ?_) (fun hc => ?_)
    · replace hc := eq_of_beq hc
      rw [if_pos hc] at h
      have hc2 := hc
      clear hc
      refine WP.skip ?_
      refine QP.next ?_
      refine WP.pick [1, 3, 4, 5, 19, 20] ?_
      refine WP.cond (b := (a0.f0 == 1)) (by kernel_rfl) (fun hc => ?_) (fun hc => ?_)
      · replace hc := eq_of_beq hc
        rw [if_pos hc] at h
        have hc3 := hc
        clear hc
        rw [Option.bind_eq_some_iff] at h
        obtain ⟨os4, h, hk5⟩ := h
        refine WP.cut (fun L' G' Γ' => ∃ s4 : Bool, s4 = os4 ∧ L' = [(2, .bool s4)] ∧ G = G' ∧ Γ = Γ') ?_ ?_
        · clear hk5
          refine WP.region ?_
          refine WL.pure 0 2 [1, 5, 24] (L' := [(1, .pointer (some ⟨b1, 0, none⟩)), (5, .bool ((a0.f3.length : Int) == 0)), (24, .bool (a0.f1 == 0))]) (by kernel_rfl) (by decide) ?_
          refine WL.split 24 (b := (a0.f1 == 0)) (by kernel_rfl) (fun hc => ?_) (fun hc => ?_)
          · replace hc := eq_of_beq hc
            rw [if_pos hc] at h
            have hc6 := hc
            clear hc
            refine WL.pure 2 5 [1, 27] (L' := [(1, .pointer (some ⟨b1, 0, none⟩)), (27, .bool ((a0.f3.length : Int) == 0))]) (by kernel_rfl) (by decide) ?_
            refine WL.split 27 (b := ((a0.f3.length : Int) == 0)) (by kernel_rfl) (fun hc => ?_) (fun hc => ?_)
            · replace hc := eq_of_beq hc
              rw [if_pos hc] at h
              have hc7 := hc
              clear hc
              refine WL.pure 5 6 [27, 28] (L' := [(27, .bool true), (28, .pointer (some ⟨b1, 2, none⟩))]) (by kernel_rfl) (by decide) ?_
              refine WL.tell (op := .load 22 (.tmp 28)) (ty := 22) (d := some 29) (g := some (4, true)) (by kernel_rfl) (by kernel_rfl) (by kernel_rfl) (Tells.load_box (i := 0) (b := b1) (o := 2) (agg := false) (by rfl) ag22 (by kernel_rfl) (fun _ => rfl) (Nat.le_of_ble_eq_true rfl) (v := .slice Aa0_f2 a0.f2.length ca0_f2) (by kernel_rfl)) ?_
              rw [Option.bind_eq_some_iff] at h
              obtain ⟨t8, ht9, h⟩ := h
              refine WL.op (op := .call { callee := (.value (.func 78)), args := #[(.tmp 29), (.const (.int .i64 1)), (.const (.int .i64 1))], argTypes := #[22, 3, 3] }) (ty := 4) (d := some 30) (g := some (4, true)) (by kernel_rfl) (by kernel_rfl) (by kernel_rfl) (Does.call (f := 78) (args := [.slice Aa0_f2 a0.f2.length ca0_f2, .int .i64 1, .int .i64 1]) (by kernel_rfl) (fun W hI => (grapevineref14_words_calls HT kf a0.f2 1 1 Aa0_f2 ca0_f2 Ha0_f2 t8 ht9 hI))) ?_
              rintro _ _ _ ⟨rfl, rfl, rfl⟩
              refine WL.rest 8 [2] (L' := [(2, .bool t8)]) (by kernel_rfl) ?_
              refine QP.dropAt 0 ?_
              refine QP.pick [2] ?_
              exact QP.meet ⟨_, Option.some.inj h, rfl, rfl, rfl⟩
            · replace hc := ne_of_beq_false hc
              rw [if_neg hc] at h
              have hc7 := hc
              clear hc
              refine WL.rest 5 [2] (L' := [(2, .bool false)]) (by kernel_rfl) ?_
              refine QP.dropAt 0 ?_
              refine QP.pick [2] ?_
              exact QP.meet ⟨_, Option.some.inj h, rfl, rfl, rfl⟩
          · replace hc := ne_of_beq_false hc
            rw [if_neg hc] at h
            have hc6 := hc
            clear hc
            refine WL.rest 2 [2] (L' := [(2, .bool false)]) (by kernel_rfl) ?_
            refine QP.dropAt 0 ?_
            refine QP.pick [2] ?_
            exact QP.meet ⟨_, Option.some.inj h, rfl, rfl, rfl⟩
        · rintro _ _ _ ⟨s4, rfl, rfl, rfl, rfl⟩
          clear h
          replace h := hk5
          refine WP.ret ?_
          refine QP.blockR ?_
          refine QP.thenR ?_
          obtain rfl := Option.some.inj h
          exact QP.returned [2] [.bool s4] _ (by kernel_rfl) (by kernel_rfl) (by kernel_rfl) (fun W hI => ⟨_, _, _, rfl, ⟨rfl, rfl, rfl⟩, hI⟩)
      · replace hc := ne_of_beq_false hc
        rw [if_neg hc] at h
        have hc3 := hc
        clear hc
        refine WP.seqP [1, 3, 4, 5, 19, 32] (L' := [(1, .pointer (some ⟨b1, 0, none⟩)), (3, .bool (a0.f1 == 0)), (4, .bool ((a0.f2.length : Int) == 0)), (5, .bool ((a0.f3.length : Int) == 0)), (19, .int .i64 a0.f0), (32, .bool (a0.f0 == 3))]) (by kernel_rfl) ?_
        refine WP.cond (b := (a0.f0 == 3)) (by kernel_rfl) (fun hc => ?_) (fun hc => ?_)
        · replace hc := eq_of_beq hc
          rw [if_pos hc] at h
          have hc12 := hc
          clear hc
          rw [Option.bind_eq_some_iff] at h
          obtain ⟨os13, h, hk14⟩ := h
          refine WP.cut (fun L' G' Γ' => ∃ s13 : Bool, s13 = os13 ∧ L' = [(2, .bool s13)] ∧ G = G' ∧ Γ = Γ') ?_ ?_
          · clear hk14
            refine WP.region ?_
            refine WL.pure 0 2 [1, 5, 35] (L' := [(1, .pointer (some ⟨b1, 0, none⟩)), (5, .bool ((a0.f3.length : Int) == 0)), (35, .bool (a0.f1 == 0))]) (by kernel_rfl) (by decide) ?_
            refine WL.split 35 (b := (a0.f1 == 0)) (by kernel_rfl) (fun hc => ?_) (fun hc => ?_)
            · replace hc := eq_of_beq hc
              rw [if_pos hc] at h
              have hc15 := hc
              clear hc
              refine WL.pure 2 5 [1, 38] (L' := [(1, .pointer (some ⟨b1, 0, none⟩)), (38, .bool ((a0.f3.length : Int) == 0))]) (by kernel_rfl) (by decide) ?_
              refine WL.split 38 (b := ((a0.f3.length : Int) == 0)) (by kernel_rfl) (fun hc => ?_) (fun hc => ?_)
              · replace hc := eq_of_beq hc
                rw [if_pos hc] at h
                have hc16 := hc
                clear hc
                refine WL.pure 5 6 [38, 39] (L' := [(38, .bool true), (39, .pointer (some ⟨b1, 2, none⟩))]) (by kernel_rfl) (by decide) ?_
                refine WL.tell (op := .load 22 (.tmp 39)) (ty := 22) (d := some 40) (g := some (4, true)) (by kernel_rfl) (by kernel_rfl) (by kernel_rfl) (Tells.load_box (i := 0) (b := b1) (o := 2) (agg := false) (by rfl) ag22 (by kernel_rfl) (fun _ => rfl) (Nat.le_of_ble_eq_true rfl) (v := .slice Aa0_f2 a0.f2.length ca0_f2) (by kernel_rfl)) ?_
                rw [Option.bind_eq_some_iff] at h
                obtain ⟨t17, ht18, h⟩ := h
                refine WL.op (op := .call { callee := (.value (.func 78)), args := #[(.tmp 40), (.const (.int .i64 1)), (.const (.int .i64 16))], argTypes := #[22, 3, 3] }) (ty := 4) (d := some 41) (g := some (4, true)) (by kernel_rfl) (by kernel_rfl) (by kernel_rfl) (Does.call (f := 78) (args := [.slice Aa0_f2 a0.f2.length ca0_f2, .int .i64 1, .int .i64 16]) (by kernel_rfl) (fun W hI => (grapevineref14_words_calls HT kf a0.f2 1 16 Aa0_f2 ca0_f2 Ha0_f2 t17 ht18 hI))) ?_
                rintro _ _ _ ⟨rfl, rfl, rfl⟩
                refine WL.rest 8 [2] (L' := [(2, .bool t17)]) (by kernel_rfl) ?_
                refine QP.dropAt 0 ?_
                refine QP.pick [2] ?_
                exact QP.meet ⟨_, Option.some.inj h, rfl, rfl, rfl⟩
              · replace hc := ne_of_beq_false hc
                rw [if_neg hc] at h
                have hc16 := hc
                clear hc
                refine WL.rest 5 [2] (L' := [(2, .bool false)]) (by kernel_rfl) ?_
                refine QP.dropAt 0 ?_
                refine QP.pick [2] ?_
                exact QP.meet ⟨_, Option.some.inj h, rfl, rfl, rfl⟩
            · replace hc := ne_of_beq_false hc
              rw [if_neg hc] at h
              have hc15 := hc
              clear hc
              refine WL.rest 2 [2] (L' := [(2, .bool false)]) (by kernel_rfl) ?_
              refine QP.dropAt 0 ?_
              refine QP.pick [2] ?_
              exact QP.meet ⟨_, Option.some.inj h, rfl, rfl, rfl⟩
          · rintro _ _ _ ⟨s13, rfl, rfl, rfl, rfl⟩
            clear h
            replace h := hk14
            refine WP.ret ?_
            refine QP.blockR ?_
            refine QP.thenR ?_
            obtain rfl := Option.some.inj h
            exact QP.returned [2] [.bool s13] _ (by kernel_rfl) (by kernel_rfl) (by kernel_rfl) (fun W hI => ⟨_, _, _, rfl, ⟨rfl, rfl, rfl⟩, hI⟩)
        · replace hc := ne_of_beq_false hc
          rw [if_neg hc] at h
          have hc12 := hc
          clear hc
          refine WP.seqP [1, 3, 4, 5, 19, 43] (L' := [(1, .pointer (some ⟨b1, 0, none⟩)), (3, .bool (a0.f1 == 0)), (4, .bool ((a0.f2.length : Int) == 0)), (5, .bool ((a0.f3.length : Int) == 0)), (19, .int .i64 a0.f0), (43, .bool (a0.f0 == 4))]) (by kernel_rfl) ?_
          refine WP.cond (b := (a0.f0 == 4)) (by kernel_rfl) (fun hc => ?_) (fun hc => ?_)
          · replace hc := eq_of_beq hc
            rw [if_pos hc] at h
            have hc21 := hc
            clear hc
            rw [Option.bind_eq_some_iff] at h
            obtain ⟨os22, h, hk23⟩ := h
            refine WP.cut (fun L' G' Γ' => ∃ s22 : Bool, s22 = os22 ∧ L' = [(2, .bool s22)] ∧ G = G' ∧ Γ = Γ') ?_ ?_
            · clear hk23
              refine WP.region ?_
              refine WL.pure 0 2 [1, 5, 46] (L' := [(1, .pointer (some ⟨b1, 0, none⟩)), (5, .bool ((a0.f3.length : Int) == 0)), (46, .bool ((a0.f2.length : Int) == 0))]) (by kernel_rfl) (by decide) ?_
              refine WL.split 46 (b := ((a0.f2.length : Int) == 0)) (by kernel_rfl) (fun hc => ?_) (fun hc => ?_)
              · replace hc := eq_of_beq hc
                rw [if_pos hc] at h
                have hc24 := hc
                clear hc
                refine WL.pure 2 5 [1, 49] (L' := [(1, .pointer (some ⟨b1, 0, none⟩)), (49, .bool ((a0.f3.length : Int) == 0))]) (by kernel_rfl) (by decide) ?_
                refine WL.split 49 (b := ((a0.f3.length : Int) == 0)) (by kernel_rfl) (fun hc => ?_) (fun hc => ?_)
                · replace hc := eq_of_beq hc
                  rw [if_pos hc] at h
                  have hc25 := hc
                  clear hc
                  refine WL.pure 5 6 [1, 49, 50] (L' := [(1, .pointer (some ⟨b1, 0, none⟩)), (49, .bool true), (50, .pointer (some ⟨b1, 1, none⟩))]) (by kernel_rfl) (by decide) ?_
                  refine WL.tell (op := .load 3 (.tmp 50)) (ty := 3) (d := some 51) (g := some (4, true)) (by kernel_rfl) (by kernel_rfl) (by kernel_rfl) (Tells.load_box (i := 0) (b := b1) (o := 1) (agg := false) (by rfl) ag3 (by kernel_rfl) (fun _ => rfl) (Nat.le_of_ble_eq_true rfl) (v := .int .i64 a0.f1) (by kernel_rfl)) ?_
                  refine WL.pure 7 10 [1, 54] (L' := [(1, .pointer (some ⟨b1, 0, none⟩)), (54, .bool (decide (a0.f1 ≥ 0)))]) (by kernel_rfl) (by decide) ?_
                  refine WL.split 54 (b := decide (a0.f1 ≥ 0)) (by kernel_rfl) (fun hc => ?_) (fun hc => ?_)
                  · replace hc := of_decide_eq_true hc
                    rw [if_pos hc] at h
                    have hc26 := hc
                    clear hc
                    refine WL.pure 10 11 [54, 55] (L' := [(54, .bool true), (55, .pointer (some ⟨b1, 1, none⟩))]) (by kernel_rfl) (by decide) ?_
                    refine WL.tell (op := .load 3 (.tmp 55)) (ty := 3) (d := some 56) (g := some (9, true)) (by kernel_rfl) (by kernel_rfl) (by kernel_rfl) (Tells.load_box (i := 0) (b := b1) (o := 1) (agg := false) (by rfl) ag3 (by kernel_rfl) (fun _ => rfl) (Nat.le_of_ble_eq_true rfl) (v := .int .i64 a0.f1) (by kernel_rfl)) ?_
                    refine WL.rest 12 [2] (L' := [(2, .bool (decide (a0.f1 < 8)))]) (by kernel_rfl) ?_
                    refine QP.dropAt 0 ?_
                    refine QP.pick [2] ?_
                    exact QP.meet ⟨_, Option.some.inj h, rfl, rfl, rfl⟩
                  · replace hc := of_decide_eq_false hc
                    rw [if_neg hc] at h
                    have hc26 := hc
                    clear hc
                    refine WL.rest 10 [2] (L' := [(2, .bool false)]) (by kernel_rfl) ?_
                    refine QP.dropAt 0 ?_
                    refine QP.pick [2] ?_
                    exact QP.meet ⟨_, Option.some.inj h, rfl, rfl, rfl⟩
                · replace hc := ne_of_beq_false hc
                  rw [if_neg hc] at h
                  have hc25 := hc
                  clear hc
                  refine WL.rest 5 [2] (L' := [(2, .bool false)]) (by kernel_rfl) ?_
                  refine QP.dropAt 0 ?_
                  refine QP.pick [2] ?_
                  exact QP.meet ⟨_, Option.some.inj h, rfl, rfl, rfl⟩
              · replace hc := ne_of_beq_false hc
                rw [if_neg hc] at h
                have hc24 := hc
                clear hc
                refine WL.rest 2 [2] (L' := [(2, .bool false)]) (by kernel_rfl) ?_
                refine QP.dropAt 0 ?_
                refine QP.pick [2] ?_
                exact QP.meet ⟨_, Option.some.inj h, rfl, rfl, rfl⟩
            · rintro _ _ _ ⟨s22, rfl, rfl, rfl, rfl⟩
              clear h
              replace h := hk23
              refine WP.ret ?_
              refine QP.blockR ?_
              refine QP.thenR ?_
              obtain rfl := Option.some.inj h
              exact QP.returned [2] [.bool s22] _ (by kernel_rfl) (by kernel_rfl) (by kernel_rfl) (fun W hI => ⟨_, _, _, rfl, ⟨rfl, rfl, rfl⟩, hI⟩)
          · replace hc := ne_of_beq_false hc
            rw [if_neg hc] at h
            have hc21 := hc
            clear hc
            refine WP.seq ?_
            refine WP.seqP [1, 3, 4, 5, 19, 59] (L' := [(1, .pointer (some ⟨b1, 0, none⟩)), (3, .bool (a0.f1 == 0)), (4, .bool ((a0.f2.length : Int) == 0)), (5, .bool ((a0.f3.length : Int) == 0)), (19, .int .i64 a0.f0), (59, .bool (a0.f0 == 5))]) (by kernel_rfl) ?_
            refine WP.cond (b := (a0.f0 == 5)) (by kernel_rfl) (fun hc => ?_) (fun hc => ?_)
            · replace hc := eq_of_beq hc
              rw [if_pos hc] at h
              have hc27 := hc
              clear hc
              refine WP.skip ?_
              refine QP.next ?_
              refine WP.pick [1, 3, 4, 5, 19, 59] ?_
              refine WP.cond (b := (a0.f0 == 5)) (by kernel_rfl) (fun hc => ?_) (fun hc => ?_)
              · replace hc := eq_of_beq hc
                rw [if_pos hc] at h
                have hc28 := hc
                clear hc
                rw [Option.bind_eq_some_iff] at h
                obtain ⟨os29, h, hk30⟩ := h
                refine WP.cut (fun L' G' Γ' => ∃ s29 : Bool, s29 = os29 ∧ L' = [(2, .bool s29)] ∧ G = G' ∧ Γ = Γ') ?_ ?_
                · clear hk30
                  refine WP.region ?_
                  refine WL.pure 0 2 [1, 5, 63] (L' := [(1, .pointer (some ⟨b1, 0, none⟩)), (5, .bool ((a0.f3.length : Int) == 0)), (63, .bool ((a0.f2.length : Int) == 0))]) (by kernel_rfl) (by decide) ?_
                  refine WL.split 63 (b := ((a0.f2.length : Int) == 0)) (by kernel_rfl) (fun hc => ?_) (fun hc => ?_)
                  · replace hc := eq_of_beq hc
                    rw [if_pos hc] at h
                    have hc31 := hc
                    clear hc
                    refine WL.pure 2 5 [1, 66] (L' := [(1, .pointer (some ⟨b1, 0, none⟩)), (66, .bool ((a0.f3.length : Int) == 0))]) (by kernel_rfl) (by decide) ?_
                    refine WL.split 66 (b := ((a0.f3.length : Int) == 0)) (by kernel_rfl) (fun hc => ?_) (fun hc => ?_)
                    · replace hc := eq_of_beq hc
                      rw [if_pos hc] at h
                      have hc32 := hc
                      clear hc
                      refine WL.pure 5 6 [1, 66, 67] (L' := [(1, .pointer (some ⟨b1, 0, none⟩)), (66, .bool true), (67, .pointer (some ⟨b1, 1, none⟩))]) (by kernel_rfl) (by decide) ?_
                      refine WL.tell (op := .load 3 (.tmp 67)) (ty := 3) (d := some 68) (g := some (4, true)) (by kernel_rfl) (by kernel_rfl) (by kernel_rfl) (Tells.load_box (i := 0) (b := b1) (o := 1) (agg := false) (by rfl) ag3 (by kernel_rfl) (fun _ => rfl) (Nat.le_of_ble_eq_true rfl) (v := .int .i64 a0.f1) (by kernel_rfl)) ?_
                      refine WL.pure 7 10 [1, 71] (L' := [(1, .pointer (some ⟨b1, 0, none⟩)), (71, .bool (decide (a0.f1 ≥ 0)))]) (by kernel_rfl) (by decide) ?_
                      refine WL.split 71 (b := decide (a0.f1 ≥ 0)) (by kernel_rfl) (fun hc => ?_) (fun hc => ?_)
                      · replace hc := of_decide_eq_true hc
                        rw [if_pos hc] at h
                        have hc33 := hc
                        clear hc
                        refine WL.pure 10 11 [71, 72] (L' := [(71, .bool true), (72, .pointer (some ⟨b1, 1, none⟩))]) (by kernel_rfl) (by decide) ?_
                        refine WL.tell (op := .load 3 (.tmp 72)) (ty := 3) (d := some 73) (g := some (9, true)) (by kernel_rfl) (by kernel_rfl) (by kernel_rfl) (Tells.load_box (i := 0) (b := b1) (o := 1) (agg := false) (by rfl) ag3 (by kernel_rfl) (fun _ => rfl) (Nat.le_of_ble_eq_true rfl) (v := .int .i64 a0.f1) (by kernel_rfl)) ?_
                        refine WL.rest 12 [2] (L' := [(2, .bool (decide (a0.f1 ≤ 1099511627776)))]) (by kernel_rfl) ?_
                        refine QP.dropAt 0 ?_
                        refine QP.pick [2] ?_
                        exact QP.meet ⟨_, Option.some.inj h, rfl, rfl, rfl⟩
                      · replace hc := of_decide_eq_false hc
                        rw [if_neg hc] at h
                        have hc33 := hc
                        clear hc
                        refine WL.rest 10 [2] (L' := [(2, .bool false)]) (by kernel_rfl) ?_
                        refine QP.dropAt 0 ?_
                        refine QP.pick [2] ?_
                        exact QP.meet ⟨_, Option.some.inj h, rfl, rfl, rfl⟩
                    · replace hc := ne_of_beq_false hc
                      rw [if_neg hc] at h
                      have hc32 := hc
                      clear hc
                      refine WL.rest 5 [2] (L' := [(2, .bool false)]) (by kernel_rfl) ?_
                      refine QP.dropAt 0 ?_
                      refine QP.pick [2] ?_
                      exact QP.meet ⟨_, Option.some.inj h, rfl, rfl, rfl⟩
                  · replace hc := ne_of_beq_false hc
                    rw [if_neg hc] at h
                    have hc31 := hc
                    clear hc
                    refine WL.rest 2 [2] (L' := [(2, .bool false)]) (by kernel_rfl) ?_
                    refine QP.dropAt 0 ?_
                    refine QP.pick [2] ?_
                    exact QP.meet ⟨_, Option.some.inj h, rfl, rfl, rfl⟩
                · rintro _ _ _ ⟨s29, rfl, rfl, rfl, rfl⟩
                  clear h
                  replace h := hk30
                  refine WP.ret ?_
                  refine QP.blockR ?_
                  refine QP.thenR ?_
                  obtain rfl := Option.some.inj h
                  exact QP.returned [2] [.bool s29] _ (by kernel_rfl) (by kernel_rfl) (by kernel_rfl) (fun W hI => ⟨_, _, _, rfl, ⟨rfl, rfl, rfl⟩, hI⟩)
              · replace hc := ne_of_beq_false hc
                rw [if_neg hc] at h
                have hc28 := hc
                clear hc
                refine WP.seqP [1, 3, 4, 19, 76] (L' := [(1, .pointer (some ⟨b1, 0, none⟩)), (3, .bool (a0.f1 == 0)), (4, .bool ((a0.f2.length : Int) == 0)), (19, .int .i64 a0.f0), (76, .bool (a0.f0 == 9))]) (by kernel_rfl) ?_
                refine WP.cond (b := (a0.f0 == 9)) (by kernel_rfl) (fun hc => ?_) (fun hc => ?_)
                · replace hc := eq_of_beq hc
                  rw [if_pos hc] at h
                  have hc34 := hc
                  clear hc
                  refine WP.seqR ?_
                  refine WL.pure 0 1 [1, 3, 4, 78] (L' := [(1, .pointer (some ⟨b1, 0, none⟩)), (3, .bool (a0.f1 == 0)), (4, .bool ((a0.f2.length : Int) == 0)), (78, .pointer (some ⟨b1, 3, none⟩))]) (by kernel_rfl) (by decide) ?_
                  refine WL.tell (op := .load 23 (.tmp 78)) (ty := 23) (d := some 79) (g := none) (by kernel_rfl) (by kernel_rfl) (by kernel_rfl) (Tells.load_box (i := 0) (b := b1) (o := 3) (agg := false) (by rfl) ag23 (by kernel_rfl) (fun _ => rfl) (Nat.le_of_ble_eq_true rfl) (v := .slice Aa0_f3 a0.f3.length ca0_f3) (by kernel_rfl)) ?_
                  refine WL.restQ 2 [1, 3, 4, 81] (L' := [(1, .pointer (some ⟨b1, 0, none⟩)), (3, .bool (a0.f1 == 0)), (4, .bool ((a0.f2.length : Int) == 0)), (81, .bool ((a0.f3.length : Int) != 1))]) (by kernel_rfl) ?_
                  refine WP.cond (b := ((a0.f3.length : Int) != 1)) (by kernel_rfl) (fun hc => ?_) (fun hc => ?_)
                  · replace hc := (bne_iff_ne.1 hc)
                    rw [if_pos hc] at h
                    have hc35 := hc
                    clear hc
                    refine WP.seqP [2] (L' := [(2, .bool false)]) (by kernel_rfl) ?_
                    refine WP.dropAt 0 ?_
                    refine WP.ret ?_
                    refine QP.blockR ?_
                    refine QP.thenR ?_
                    obtain rfl := Option.some.inj h
                    exact QP.returned [2] [.bool false] _ (by kernel_rfl) (by kernel_rfl) (by kernel_rfl) (fun W hI => ⟨_, _, _, rfl, ⟨rfl, rfl, rfl⟩, hI⟩)
                  · replace hc := (not_not_intro (bne_eq_false_iff_eq.1 hc))
                    rw [if_neg hc] at h
                    have hc35 := hc
                    clear hc
                    refine WP.skip ?_
                    refine QP.blockN ?_
                    refine QP.next ?_
                    refine WP.pick [1, 3, 4] ?_
                    refine WP.seq ?_
                    refine WP.seqP [1, 3, 4, 6] (L' := [(1, .pointer (some ⟨b1, 0, none⟩)), (3, .bool (a0.f1 == 0)), (4, .bool ((a0.f2.length : Int) == 0)), (6, .int .i64 0)]) (by kernel_rfl) ?_
                    rw [Option.bind_eq_some_iff] at h
                    obtain ⟨os36, h, hk37⟩ := h
                    refine WP.cutQ (fun L' G' Γ' => ∃ s36 : Unit, Sum.inr s36 = os36 ∧ L' = [(3, .bool (a0.f1 == 0)), (4, .bool ((a0.f2.length : Int) == 0))] ∧ G = G' ∧ Γ = Γ') ?_ ?_
                    · skip
                      refine WP.block ?_
                      refine WP.pick [1, 3, 4, 6] ?_
                      refine WP.loopF (fun kn39 L' G' Γ' => ∃ (y38 : Int), grapevineref14_form_l0 a0 (grapevineref14_form kf) kn39 y38 = some os36 ∧ L' = [(1, .pointer (some ⟨b1, 0, none⟩)), (3, .bool (a0.f1 == 0)), (4, .bool ((a0.f2.length : Int) == 0)), (6, .int .i64 y38)] ∧ G = G' ∧ [(b1, .cells #[.int .i64 a0.f0, .int .i64 a0.f1, .slice Aa0_f2 a0.f2.length ca0_f2, .slice Aa0_f3 a0.f3.length ca0_f3] 25 (0, 0))] :: Γ = Γ') ?_ kf ⟨0, h, rfl, rfl, rfl⟩
                      clear h
                      rintro kn40 _ _ _ ⟨y38, h, rfl, rfl, rfl⟩
                      cases kn40 with
                      | zero => exact absurd h (by simp [grapevineref14_form_l0])
                      | succ kn40 =>
                        simp only [grapevineref14_form_l0] at h
                        refine WP.seq ?_
                        refine WP.seqR ?_
                        refine WL.pure 0 2 [1, 3, 4, 6, 89, 90] (L' := [(1, .pointer (some ⟨b1, 0, none⟩)), (3, .bool (a0.f1 == 0)), (4, .bool ((a0.f2.length : Int) == 0)), (6, .int .i64 y38), (89, .int .i64 y38), (90, .pointer (some ⟨b1, 3, none⟩))]) (by kernel_rfl) (by decide) ?_
                        refine WL.tell (op := .load 23 (.tmp 90)) (ty := 23) (d := some 91) (g := none) (by kernel_rfl) (by kernel_rfl) (by kernel_rfl) (Tells.load_box (i := 0) (b := b1) (o := 3) (agg := false) (by rfl) ag23 (by kernel_rfl) (fun _ => rfl) (Nat.le_of_ble_eq_true rfl) (v := .slice Aa0_f3 a0.f3.length ca0_f3) (by kernel_rfl)) ?_
                        refine WL.restQ 3 [1, 3, 4, 6, 93] (L' := [(1, .pointer (some ⟨b1, 0, none⟩)), (3, .bool (a0.f1 == 0)), (4, .bool ((a0.f2.length : Int) == 0)), (6, .int .i64 y38), (93, .bool (decide (y38 < (a0.f3.length : Int))))]) (by kernel_rfl) ?_
                        refine WP.cond (b := decide (y38 < (a0.f3.length : Int))) (by kernel_rfl) (fun hc => ?_) (fun hc => ?_)
                        · replace hc := of_decide_eq_true hc
                          rw [if_pos hc] at h
                          have hc41 := hc
                          clear hc
                          refine WP.skip ?_
                          refine QP.next ?_
                          refine WP.pick [1, 3, 4, 6] ?_
                          refine WP.seq ?_
                          refine WP.block ?_
                          refine WP.seqR ?_
                          refine WL.pure 0 1 [1, 3, 4, 6, 96] (L' := [(1, .pointer (some ⟨b1, 0, none⟩)), (3, .bool (a0.f1 == 0)), (4, .bool ((a0.f2.length : Int) == 0)), (6, .int .i64 y38), (96, .pointer (some ⟨b1, 3, none⟩))]) (by kernel_rfl) (by decide) ?_
                          refine WL.tell (op := .load 23 (.tmp 96)) (ty := 23) (d := some 97) (g := none) (by kernel_rfl) (by kernel_rfl) (by kernel_rfl) (Tells.load_box (i := 0) (b := b1) (o := 3) (agg := false) (by rfl) ag23 (by kernel_rfl) (fun _ => rfl) (Nat.le_of_ble_eq_true rfl) (v := .slice Aa0_f3 a0.f3.length ca0_f3) (by kernel_rfl)) ?_
                          refine WL.pure 2 3 [1, 3, 4, 6, 97, 98] (L' := [(1, .pointer (some ⟨b1, 0, none⟩)), (3, .bool (a0.f1 == 0)), (4, .bool ((a0.f2.length : Int) == 0)), (6, .int .i64 y38), (97, .slice Aa0_f3 a0.f3.length ca0_f3), (98, .int .i64 y38)]) (by kernel_rfl) (by decide) ?_
                          by_cases hb42 : 0 ≤ y38 ∧ y38 < (a0.f3.length : Int)
                          case neg => rw [if_neg hb42] at h; cases h
                          rw [if_pos hb42] at h
                          refine WL.tell (op := .indexAddr 23 (.tmp 97) (.tmp 98)) (ty := 0) (d := some 99) (g := none) (by kernel_rfl) (by kernel_rfl) (by kernel_rfl) (Tells.indexAddr (A := Aa0_f3) (n := a0.f3.length) (c := ca0_f3) (k := .i64) (j := y38) (by kernel_rfl) (by kernel_rfl) (Ha0_f3.isSome hb42.1 hb42.2) hb42.1 hb42.2 sl23) ?_
                          refine WL.tellE (op := .load 25 (.tmp 99)) (ty := 25) (d := some 100) (g := none) (by kernel_rfl) (by kernel_rfl) (by kernel_rfl) (Ha0_f3.load (agg := true) hb42.1 hb42.2 z25 ag25 (fun h => by cases h) (by kernel_rfl)) ?_
                          rintro _ hrel
                          obtain ⟨_, _, rfl, rfl, ⟨_, _, rfl, rfl, ⟨_, _, rfl, ⟨Ae43, ce43, rfl, He43⟩, ⟨Ae44, ce44, rfl, He44⟩⟩⟩⟩ := k25_out hrel
                          replace He43 : Rd kStr G Ae43 ce43 ((a0.f3.getD y38.toNat z25).f2) := He43
                          replace He44 : Rd k25 G Ae44 ce44 ((a0.f3.getD y38.toNat z25).f3) := He44
                          rw [Option.bind_eq_some_iff] at h
                          obtain ⟨t45, ht46, h⟩ := h
                          refine WL.op (op := .call { callee := (.value (.func 53)), args := #[(.tmp 100)], argTypes := #[25] }) (ty := 4) (d := some 101) (g := none) (by kernel_rfl) (by kernel_rfl) (by kernel_rfl) (Does.call (f := 53) (args := [.agg #[.int .i64 ((a0.f3.getD y38.toNat z25).f0), .int .i64 ((a0.f3.getD y38.toNat z25).f1), .slice Ae43 ((a0.f3.getD y38.toNat z25).f2).length ce43, .slice Ae44 ((a0.f3.getD y38.toNat z25).f3).length ce44]]) (by kernel_rfl) (fun W hI => (ih HT (a0.f3.getD y38.toNat z25) Ae43 ce43 He43 Ae44 ce44 He44 t45 ht46 hI))) ?_
                          rintro _ _ _ ⟨rfl, rfl, rfl⟩
                          refine WL.restQ 6 [1, 3, 4, 6, 102] (L' := [(1, .pointer (some ⟨b1, 0, none⟩)), (3, .bool (a0.f1 == 0)), (4, .bool ((a0.f2.length : Int) == 0)), (6, .int .i64 y38), (102, .bool (!t45))]) (by kernel_rfl) ?_
                          refine WP.cond (b := (!t45)) (by kernel_rfl) (fun hc => ?_) (fun hc => ?_)
                          · replace hc := hc
                            rw [if_pos hc] at h
                            have hc49 := hc
                            clear hc
                            refine WP.seqP [2] (L' := [(2, .bool false)]) (by kernel_rfl) ?_
                            refine WP.dropAt 0 ?_
                            refine WP.ret ?_
                            refine QP.blockR ?_
                            refine QP.thenR ?_
                            refine QP.thenR ?_
                            refine QP.blockR ?_
                            refine QP.thenR ?_
                            refine QP.thenR ?_
                            obtain rfl := Option.some.inj h
                            obtain rfl := Option.some.inj (show some _ = some _ from hk37)
                            exact QP.returned [2] [.bool false] _ (by kernel_rfl) (by kernel_rfl) (by kernel_rfl) (fun W hI => ⟨_, _, _, rfl, ⟨rfl, rfl, rfl⟩, hI⟩)
                          · replace hc := (Bool.eq_false_iff.1 hc)
                            rw [if_neg hc] at h
                            have hc49 := hc
                            clear hc
                            refine WP.skip ?_
                            refine QP.blockN ?_
                            refine QP.next ?_
                            refine WP.pick [1, 3, 4, 6] ?_
                            refine WP.regionP [1, 3, 4, 6] (L' := [(1, .pointer (some ⟨b1, 0, none⟩)), (3, .bool (a0.f1 == 0)), (4, .bool ((a0.f2.length : Int) == 0)), (6, .int .i64 (IntKind.i64.wrap (y38 + 1)))]) (by kernel_rfl) ?_
                            refine QP.pick [1, 3, 4, 6] ?_
                            exact QP.meet ⟨kn40, Nat.lt_succ_self _, (IntKind.i64.wrap (y38 + 1)), h, rfl, rfl, rfl⟩
                        · replace hc := of_decide_eq_false hc
                          rw [if_neg hc] at h
                          have hc41 := hc
                          clear hc
                          refine WP.exit ?_
                          refine QP.thenE ?_
                          refine QP.thenE ?_
                          refine QP.blockE ?_
                          refine QP.dropAt 0 ?_
                          refine QP.pick [3, 4] ?_
                          exact QP.meet ⟨_, Option.some.inj h, rfl, rfl, rfl⟩
                    · rintro _ _ _ ⟨s36, rfl, rfl, rfl, rfl⟩
                      clear h
                      replace h := hk37
                      dsimp only at h
                      refine QP.next ?_
                      refine WP.pick [3, 4] ?_
                      rw [Option.bind_eq_some_iff] at h
                      obtain ⟨os50, h, hk51⟩ := h
                      refine WP.cut (fun L' G' Γ' => ∃ s50 : Bool, s50 = os50 ∧ L' = [(2, .bool s50)] ∧ G = G' ∧ Γ = Γ') ?_ ?_
                      · clear hk51
                        refine WP.region ?_
                        refine WL.pure 0 2 [4, 104] (L' := [(4, .bool ((a0.f2.length : Int) == 0)), (104, .bool (a0.f1 == 0))]) (by kernel_rfl) (by decide) ?_
                        refine WL.split 104 (b := (a0.f1 == 0)) (by kernel_rfl) (fun hc => ?_) (fun hc => ?_)
                        · replace hc := eq_of_beq hc
                          rw [if_pos hc] at h
                          have hc52 := hc
                          clear hc
                          refine WL.rest 2 [2] (L' := [(2, .bool ((a0.f2.length : Int) == 0))]) (by kernel_rfl) ?_
                          refine QP.pick [2] ?_
                          exact QP.meet ⟨_, Option.some.inj h, rfl, rfl, rfl⟩
                        · replace hc := ne_of_beq_false hc
                          rw [if_neg hc] at h
                          have hc52 := hc
                          clear hc
                          refine WL.rest 2 [2] (L' := [(2, .bool false)]) (by kernel_rfl) ?_
                          refine QP.pick [2] ?_
                          exact QP.meet ⟨_, Option.some.inj h, rfl, rfl, rfl⟩
                      · rintro _ _ _ ⟨s50, rfl, rfl, rfl, rfl⟩
                        clear h
                        replace h := hk51
                        refine WP.ret ?_
                        obtain rfl := Option.some.inj h
                        exact QP.returned [2] [.bool s50] _ (by kernel_rfl) (by kernel_rfl) (by kernel_rfl) (fun W hI => ⟨_, _, _, rfl, ⟨rfl, rfl, rfl⟩, hI⟩)
                · replace hc := ne_of_beq_false hc
                  rw [if_neg hc] at h
                  have hc34 := hc
                  clear hc
                  refine WP.seq ?_
                  refine WP.seqP [1, 3, 4, 19, 82] (L' := [(1, .pointer (some ⟨b1, 0, none⟩)), (3, .bool (a0.f1 == 0)), (4, .bool ((a0.f2.length : Int) == 0)), (19, .int .i64 a0.f0), (82, .bool (a0.f0 == 7))]) (by kernel_rfl) ?_
                  refine WP.cond (b := (a0.f0 == 7)) (by kernel_rfl) (fun hc => ?_) (fun hc => ?_)
                  · replace hc := eq_of_beq hc
                    rw [if_pos hc] at h
                    have hc53 := hc
                    clear hc
                    refine WP.skip ?_
                    refine QP.next ?_
                    refine WP.pick [1, 3, 4, 82] ?_
                    refine WP.cond (b := (a0.f0 == 7)) (by kernel_rfl) (fun hc => ?_) (fun hc => ?_)
                    · replace hc := eq_of_beq hc
                      rw [if_pos hc] at h
                      have hc54 := hc
                      clear hc
                      refine WP.seqR ?_
                      refine WL.pure 0 1 [1, 3, 4, 85] (L' := [(1, .pointer (some ⟨b1, 0, none⟩)), (3, .bool (a0.f1 == 0)), (4, .bool ((a0.f2.length : Int) == 0)), (85, .pointer (some ⟨b1, 3, none⟩))]) (by kernel_rfl) (by decide) ?_
                      refine WL.tell (op := .load 23 (.tmp 85)) (ty := 23) (d := some 86) (g := none) (by kernel_rfl) (by kernel_rfl) (by kernel_rfl) (Tells.load_box (i := 0) (b := b1) (o := 3) (agg := false) (by rfl) ag23 (by kernel_rfl) (fun _ => rfl) (Nat.le_of_ble_eq_true rfl) (v := .slice Aa0_f3 a0.f3.length ca0_f3) (by kernel_rfl)) ?_
                      refine WL.restQ 2 [1, 3, 4, 88] (L' := [(1, .pointer (some ⟨b1, 0, none⟩)), (3, .bool (a0.f1 == 0)), (4, .bool ((a0.f2.length : Int) == 0)), (88, .bool (decide ((a0.f3.length : Int) < 2)))]) (by kernel_rfl) ?_
                      refine WP.cond (b := decide ((a0.f3.length : Int) < 2)) (by kernel_rfl) (fun hc => ?_) (fun hc => ?_)
                      · replace hc := of_decide_eq_true hc
                        rw [if_pos hc] at h
                        have hc55 := hc
                        clear hc
                        refine WP.seqP [2] (L' := [(2, .bool false)]) (by kernel_rfl) ?_
                        refine WP.dropAt 0 ?_
                        refine WP.ret ?_
                        refine QP.blockR ?_
                        refine QP.thenR ?_
                        obtain rfl := Option.some.inj h
                        exact QP.returned [2] [.bool false] _ (by kernel_rfl) (by kernel_rfl) (by kernel_rfl) (fun W hI => ⟨_, _, _, rfl, ⟨rfl, rfl, rfl⟩, hI⟩)
                      · replace hc := of_decide_eq_false hc
                        rw [if_neg hc] at h
                        have hc55 := hc
                        clear hc
                        refine WP.skip ?_
                        refine QP.blockN ?_
                        refine QP.next ?_
                        refine WP.pick [1, 3, 4] ?_
                        refine WP.seq ?_
                        refine WP.seqP [1, 3, 4, 6] (L' := [(1, .pointer (some ⟨b1, 0, none⟩)), (3, .bool (a0.f1 == 0)), (4, .bool ((a0.f2.length : Int) == 0)), (6, .int .i64 0)]) (by kernel_rfl) ?_
                        rw [Option.bind_eq_some_iff] at h
                        obtain ⟨os56, h, hk57⟩ := h
                        refine WP.cutQ (fun L' G' Γ' => ∃ s56 : Unit, Sum.inr s56 = os56 ∧ L' = [(3, .bool (a0.f1 == 0)), (4, .bool ((a0.f2.length : Int) == 0))] ∧ G = G' ∧ Γ = Γ') ?_ ?_
                        · skip
                          refine WP.block ?_
                          refine WP.pick [1, 3, 4, 6] ?_
                          refine WP.loopF (fun kn59 L' G' Γ' => ∃ (y58 : Int), grapevineref14_form_l1 a0 (grapevineref14_form kf) kn59 y58 = some os56 ∧ L' = [(1, .pointer (some ⟨b1, 0, none⟩)), (3, .bool (a0.f1 == 0)), (4, .bool ((a0.f2.length : Int) == 0)), (6, .int .i64 y58)] ∧ G = G' ∧ [(b1, .cells #[.int .i64 a0.f0, .int .i64 a0.f1, .slice Aa0_f2 a0.f2.length ca0_f2, .slice Aa0_f3 a0.f3.length ca0_f3] 25 (0, 0))] :: Γ = Γ') ?_ kf ⟨0, h, rfl, rfl, rfl⟩
                          clear h
                          rintro kn60 _ _ _ ⟨y58, h, rfl, rfl, rfl⟩
                          cases kn60 with
                          | zero => exact absurd h (by simp [grapevineref14_form_l1])
                          | succ kn60 =>
                            simp only [grapevineref14_form_l1] at h
                            refine WP.seq ?_
                            refine WP.seqR ?_
                            refine WL.pure 0 2 [1, 3, 4, 6, 89, 90] (L' := [(1, .pointer (some ⟨b1, 0, none⟩)), (3, .bool (a0.f1 == 0)), (4, .bool ((a0.f2.length : Int) == 0)), (6, .int .i64 y58), (89, .int .i64 y58), (90, .pointer (some ⟨b1, 3, none⟩))]) (by kernel_rfl) (by decide) ?_
                            refine WL.tell (op := .load 23 (.tmp 90)) (ty := 23) (d := some 91) (g := none) (by kernel_rfl) (by kernel_rfl) (by kernel_rfl) (Tells.load_box (i := 0) (b := b1) (o := 3) (agg := false) (by rfl) ag23 (by kernel_rfl) (fun _ => rfl) (Nat.le_of_ble_eq_true rfl) (v := .slice Aa0_f3 a0.f3.length ca0_f3) (by kernel_rfl)) ?_
                            refine WL.restQ 3 [1, 3, 4, 6, 93] (L' := [(1, .pointer (some ⟨b1, 0, none⟩)), (3, .bool (a0.f1 == 0)), (4, .bool ((a0.f2.length : Int) == 0)), (6, .int .i64 y58), (93, .bool (decide (y58 < (a0.f3.length : Int))))]) (by kernel_rfl) ?_
                            refine WP.cond (b := decide (y58 < (a0.f3.length : Int))) (by kernel_rfl) (fun hc => ?_) (fun hc => ?_)
                            · replace hc := of_decide_eq_true hc
                              rw [if_pos hc] at h
                              have hc61 := hc
                              clear hc
                              refine WP.skip ?_
                              refine QP.next ?_
                              refine WP.pick [1, 3, 4, 6] ?_
                              refine WP.seq ?_
                              refine WP.block ?_
                              refine WP.seqR ?_
                              refine WL.pure 0 1 [1, 3, 4, 6, 96] (L' := [(1, .pointer (some ⟨b1, 0, none⟩)), (3, .bool (a0.f1 == 0)), (4, .bool ((a0.f2.length : Int) == 0)), (6, .int .i64 y58), (96, .pointer (some ⟨b1, 3, none⟩))]) (by kernel_rfl) (by decide) ?_
                              refine WL.tell (op := .load 23 (.tmp 96)) (ty := 23) (d := some 97) (g := none) (by kernel_rfl) (by kernel_rfl) (by kernel_rfl) (Tells.load_box (i := 0) (b := b1) (o := 3) (agg := false) (by rfl) ag23 (by kernel_rfl) (fun _ => rfl) (Nat.le_of_ble_eq_true rfl) (v := .slice Aa0_f3 a0.f3.length ca0_f3) (by kernel_rfl)) ?_
                              refine WL.pure 2 3 [1, 3, 4, 6, 97, 98] (L' := [(1, .pointer (some ⟨b1, 0, none⟩)), (3, .bool (a0.f1 == 0)), (4, .bool ((a0.f2.length : Int) == 0)), (6, .int .i64 y58), (97, .slice Aa0_f3 a0.f3.length ca0_f3), (98, .int .i64 y58)]) (by kernel_rfl) (by decide) ?_
                              by_cases hb62 : 0 ≤ y58 ∧ y58 < (a0.f3.length : Int)
                              case neg => rw [if_neg hb62] at h; cases h
                              rw [if_pos hb62] at h
                              refine WL.tell (op := .indexAddr 23 (.tmp 97) (.tmp 98)) (ty := 0) (d := some 99) (g := none) (by kernel_rfl) (by kernel_rfl) (by kernel_rfl) (Tells.indexAddr (A := Aa0_f3) (n := a0.f3.length) (c := ca0_f3) (k := .i64) (j := y58) (by kernel_rfl) (by kernel_rfl) (Ha0_f3.isSome hb62.1 hb62.2) hb62.1 hb62.2 sl23) ?_
                              refine WL.tellE (op := .load 25 (.tmp 99)) (ty := 25) (d := some 100) (g := none) (by kernel_rfl) (by kernel_rfl) (by kernel_rfl) (Ha0_f3.load (agg := true) hb62.1 hb62.2 z25 ag25 (fun h => by cases h) (by kernel_rfl)) ?_
                              rintro _ hrel
                              obtain ⟨_, _, rfl, rfl, ⟨_, _, rfl, rfl, ⟨_, _, rfl, ⟨Ae63, ce63, rfl, He63⟩, ⟨Ae64, ce64, rfl, He64⟩⟩⟩⟩ := k25_out hrel
                              replace He63 : Rd kStr G Ae63 ce63 ((a0.f3.getD y58.toNat z25).f2) := He63
                              replace He64 : Rd k25 G Ae64 ce64 ((a0.f3.getD y58.toNat z25).f3) := He64
                              rw [Option.bind_eq_some_iff] at h
                              obtain ⟨t65, ht66, h⟩ := h
                              refine WL.op (op := .call { callee := (.value (.func 53)), args := #[(.tmp 100)], argTypes := #[25] }) (ty := 4) (d := some 101) (g := none) (by kernel_rfl) (by kernel_rfl) (by kernel_rfl) (Does.call (f := 53) (args := [.agg #[.int .i64 ((a0.f3.getD y58.toNat z25).f0), .int .i64 ((a0.f3.getD y58.toNat z25).f1), .slice Ae63 ((a0.f3.getD y58.toNat z25).f2).length ce63, .slice Ae64 ((a0.f3.getD y58.toNat z25).f3).length ce64]]) (by kernel_rfl) (fun W hI => (ih HT (a0.f3.getD y58.toNat z25) Ae63 ce63 He63 Ae64 ce64 He64 t65 ht66 hI))) ?_
                              rintro _ _ _ ⟨rfl, rfl, rfl⟩
                              refine WL.restQ 6 [1, 3, 4, 6, 102] (L' := [(1, .pointer (some ⟨b1, 0, none⟩)), (3, .bool (a0.f1 == 0)), (4, .bool ((a0.f2.length : Int) == 0)), (6, .int .i64 y58), (102, .bool (!t65))]) (by kernel_rfl) ?_
                              refine WP.cond (b := (!t65)) (by kernel_rfl) (fun hc => ?_) (fun hc => ?_)
                              · replace hc := hc
                                rw [if_pos hc] at h
                                have hc69 := hc
                                clear hc
                                refine WP.seqP [2] (L' := [(2, .bool false)]) (by kernel_rfl) ?_
                                refine WP.dropAt 0 ?_
                                refine WP.ret ?_
                                refine QP.blockR ?_
                                refine QP.thenR ?_
                                refine QP.thenR ?_
                                refine QP.blockR ?_
                                refine QP.thenR ?_
                                refine QP.thenR ?_
                                obtain rfl := Option.some.inj h
                                obtain rfl := Option.some.inj (show some _ = some _ from hk57)
                                exact QP.returned [2] [.bool false] _ (by kernel_rfl) (by kernel_rfl) (by kernel_rfl) (fun W hI => ⟨_, _, _, rfl, ⟨rfl, rfl, rfl⟩, hI⟩)
                              · replace hc := (Bool.eq_false_iff.1 hc)
                                rw [if_neg hc] at h
                                have hc69 := hc
                                clear hc
                                refine WP.skip ?_
                                refine QP.blockN ?_
                                refine QP.next ?_
                                refine WP.pick [1, 3, 4, 6] ?_
                                refine WP.regionP [1, 3, 4, 6] (L' := [(1, .pointer (some ⟨b1, 0, none⟩)), (3, .bool (a0.f1 == 0)), (4, .bool ((a0.f2.length : Int) == 0)), (6, .int .i64 (IntKind.i64.wrap (y58 + 1)))]) (by kernel_rfl) ?_
                                refine QP.pick [1, 3, 4, 6] ?_
                                exact QP.meet ⟨kn60, Nat.lt_succ_self _, (IntKind.i64.wrap (y58 + 1)), h, rfl, rfl, rfl⟩
                            · replace hc := of_decide_eq_false hc
                              rw [if_neg hc] at h
                              have hc61 := hc
                              clear hc
                              refine WP.exit ?_
                              refine QP.thenE ?_
                              refine QP.thenE ?_
                              refine QP.blockE ?_
                              refine QP.dropAt 0 ?_
                              refine QP.pick [3, 4] ?_
                              exact QP.meet ⟨_, Option.some.inj h, rfl, rfl, rfl⟩
                        · rintro _ _ _ ⟨s56, rfl, rfl, rfl, rfl⟩
                          clear h
                          replace h := hk57
                          dsimp only at h
                          refine QP.next ?_
                          refine WP.pick [3, 4] ?_
                          rw [Option.bind_eq_some_iff] at h
                          obtain ⟨os70, h, hk71⟩ := h
                          refine WP.cut (fun L' G' Γ' => ∃ s70 : Bool, s70 = os70 ∧ L' = [(2, .bool s70)] ∧ G = G' ∧ Γ = Γ') ?_ ?_
                          · clear hk71
                            refine WP.region ?_
                            refine WL.pure 0 2 [4, 104] (L' := [(4, .bool ((a0.f2.length : Int) == 0)), (104, .bool (a0.f1 == 0))]) (by kernel_rfl) (by decide) ?_
                            refine WL.split 104 (b := (a0.f1 == 0)) (by kernel_rfl) (fun hc => ?_) (fun hc => ?_)
                            · replace hc := eq_of_beq hc
                              rw [if_pos hc] at h
                              have hc72 := hc
                              clear hc
                              refine WL.rest 2 [2] (L' := [(2, .bool ((a0.f2.length : Int) == 0))]) (by kernel_rfl) ?_
                              refine QP.pick [2] ?_
                              exact QP.meet ⟨_, Option.some.inj h, rfl, rfl, rfl⟩
                            · replace hc := ne_of_beq_false hc
                              rw [if_neg hc] at h
                              have hc72 := hc
                              clear hc
                              refine WL.rest 2 [2] (L' := [(2, .bool false)]) (by kernel_rfl) ?_
                              refine QP.pick [2] ?_
                              exact QP.meet ⟨_, Option.some.inj h, rfl, rfl, rfl⟩
                          · rintro _ _ _ ⟨s70, rfl, rfl, rfl, rfl⟩
                            clear h
                            replace h := hk71
                            refine WP.ret ?_
                            obtain rfl := Option.some.inj h
                            exact QP.returned [2] [.bool s70] _ (by kernel_rfl) (by kernel_rfl) (by kernel_rfl) (fun W hI => ⟨_, _, _, rfl, ⟨rfl, rfl, rfl⟩, hI⟩)
                    · replace hc := ne_of_beq_false hc
                      rw [if_neg hc] at h
                      have hc54 := hc
                      clear hc
                      refine WP.seqP [2] (L' := [(2, .bool false)]) (by kernel_rfl) ?_
                      refine WP.dropAt 0 ?_
                      refine WP.ret ?_
                      refine QP.blockR ?_
                      refine QP.thenR ?_
                      obtain rfl := Option.some.inj h
                      exact QP.returned [2] [.bool false] _ (by kernel_rfl) (by kernel_rfl) (by kernel_rfl) (fun W hI => ⟨_, _, _, rfl, ⟨rfl, rfl, rfl⟩, hI⟩)
                  · replace hc := ne_of_beq_false hc
                    rw [if_neg hc] at h
                    have hc53 := hc
                    clear hc
                    refine WP.regionP [1, 3, 4, 82] (L' := [(1, .pointer (some ⟨b1, 0, none⟩)), (3, .bool (a0.f1 == 0)), (4, .bool ((a0.f2.length : Int) == 0)), (82, .bool (a0.f0 == 8))]) (by kernel_rfl) ?_
                    refine QP.next ?_
                    refine WP.pick [1, 3, 4, 82] ?_
                    refine WP.cond (b := (a0.f0 == 8)) (by kernel_rfl) (fun hc => ?_) (fun hc => ?_)
                    · replace hc := eq_of_beq hc
                      rw [if_pos hc] at h
                      have hc73 := hc
                      clear hc
                      refine WP.seqR ?_
                      refine WL.pure 0 1 [1, 3, 4, 85] (L' := [(1, .pointer (some ⟨b1, 0, none⟩)), (3, .bool (a0.f1 == 0)), (4, .bool ((a0.f2.length : Int) == 0)), (85, .pointer (some ⟨b1, 3, none⟩))]) (by kernel_rfl) (by decide) ?_
                      refine WL.tell (op := .load 23 (.tmp 85)) (ty := 23) (d := some 86) (g := none) (by kernel_rfl) (by kernel_rfl) (by kernel_rfl) (Tells.load_box (i := 0) (b := b1) (o := 3) (agg := false) (by rfl) ag23 (by kernel_rfl) (fun _ => rfl) (Nat.le_of_ble_eq_true rfl) (v := .slice Aa0_f3 a0.f3.length ca0_f3) (by kernel_rfl)) ?_
                      refine WL.restQ 2 [1, 3, 4, 88] (L' := [(1, .pointer (some ⟨b1, 0, none⟩)), (3, .bool (a0.f1 == 0)), (4, .bool ((a0.f2.length : Int) == 0)), (88, .bool (decide ((a0.f3.length : Int) < 2)))]) (by kernel_rfl) ?_
                      refine WP.cond (b := decide ((a0.f3.length : Int) < 2)) (by kernel_rfl) (fun hc => ?_) (fun hc => ?_)
                      · replace hc := of_decide_eq_true hc
                        rw [if_pos hc] at h
                        have hc74 := hc
                        clear hc
                        refine WP.seqP [2] (L' := [(2, .bool false)]) (by kernel_rfl) ?_
                        refine WP.dropAt 0 ?_
                        refine WP.ret ?_
                        refine QP.blockR ?_
                        refine QP.thenR ?_
                        obtain rfl := Option.some.inj h
                        exact QP.returned [2] [.bool false] _ (by kernel_rfl) (by kernel_rfl) (by kernel_rfl) (fun W hI => ⟨_, _, _, rfl, ⟨rfl, rfl, rfl⟩, hI⟩)
                      · replace hc := of_decide_eq_false hc
                        rw [if_neg hc] at h
                        have hc74 := hc
                        clear hc
                        refine WP.skip ?_
                        refine QP.blockN ?_
                        refine QP.next ?_
                        refine WP.pick [1, 3, 4] ?_
                        refine WP.seq ?_
                        refine WP.seqP [1, 3, 4, 6] (L' := [(1, .pointer (some ⟨b1, 0, none⟩)), (3, .bool (a0.f1 == 0)), (4, .bool ((a0.f2.length : Int) == 0)), (6, .int .i64 0)]) (by kernel_rfl) ?_
                        rw [Option.bind_eq_some_iff] at h
                        obtain ⟨os75, h, hk76⟩ := h
                        refine WP.cutQ (fun L' G' Γ' => ∃ s75 : Unit, Sum.inr s75 = os75 ∧ L' = [(3, .bool (a0.f1 == 0)), (4, .bool ((a0.f2.length : Int) == 0))] ∧ G = G' ∧ Γ = Γ') ?_ ?_
                        · skip
                          refine WP.block ?_
                          refine WP.pick [1, 3, 4, 6] ?_
                          refine WP.loopF (fun kn78 L' G' Γ' => ∃ (y77 : Int), grapevineref14_form_l2 a0 (grapevineref14_form kf) kn78 y77 = some os75 ∧ L' = [(1, .pointer (some ⟨b1, 0, none⟩)), (3, .bool (a0.f1 == 0)), (4, .bool ((a0.f2.length : Int) == 0)), (6, .int .i64 y77)] ∧ G = G' ∧ [(b1, .cells #[.int .i64 a0.f0, .int .i64 a0.f1, .slice Aa0_f2 a0.f2.length ca0_f2, .slice Aa0_f3 a0.f3.length ca0_f3] 25 (0, 0))] :: Γ = Γ') ?_ kf ⟨0, h, rfl, rfl, rfl⟩
                          clear h
                          rintro kn79 _ _ _ ⟨y77, h, rfl, rfl, rfl⟩
                          cases kn79 with
                          | zero => exact absurd h (by simp [grapevineref14_form_l2])
                          | succ kn79 =>
                            simp only [grapevineref14_form_l2] at h
                            refine WP.seq ?_
                            refine WP.seqR ?_
                            refine WL.pure 0 2 [1, 3, 4, 6, 89, 90] (L' := [(1, .pointer (some ⟨b1, 0, none⟩)), (3, .bool (a0.f1 == 0)), (4, .bool ((a0.f2.length : Int) == 0)), (6, .int .i64 y77), (89, .int .i64 y77), (90, .pointer (some ⟨b1, 3, none⟩))]) (by kernel_rfl) (by decide) ?_
                            refine WL.tell (op := .load 23 (.tmp 90)) (ty := 23) (d := some 91) (g := none) (by kernel_rfl) (by kernel_rfl) (by kernel_rfl) (Tells.load_box (i := 0) (b := b1) (o := 3) (agg := false) (by rfl) ag23 (by kernel_rfl) (fun _ => rfl) (Nat.le_of_ble_eq_true rfl) (v := .slice Aa0_f3 a0.f3.length ca0_f3) (by kernel_rfl)) ?_
                            refine WL.restQ 3 [1, 3, 4, 6, 93] (L' := [(1, .pointer (some ⟨b1, 0, none⟩)), (3, .bool (a0.f1 == 0)), (4, .bool ((a0.f2.length : Int) == 0)), (6, .int .i64 y77), (93, .bool (decide (y77 < (a0.f3.length : Int))))]) (by kernel_rfl) ?_
                            refine WP.cond (b := decide (y77 < (a0.f3.length : Int))) (by kernel_rfl) (fun hc => ?_) (fun hc => ?_)
                            · replace hc := of_decide_eq_true hc
                              rw [if_pos hc] at h
                              have hc80 := hc
                              clear hc
                              refine WP.skip ?_
                              refine QP.next ?_
                              refine WP.pick [1, 3, 4, 6] ?_
                              refine WP.seq ?_
                              refine WP.block ?_
                              refine WP.seqR ?_
                              refine WL.pure 0 1 [1, 3, 4, 6, 96] (L' := [(1, .pointer (some ⟨b1, 0, none⟩)), (3, .bool (a0.f1 == 0)), (4, .bool ((a0.f2.length : Int) == 0)), (6, .int .i64 y77), (96, .pointer (some ⟨b1, 3, none⟩))]) (by kernel_rfl) (by decide) ?_
                              refine WL.tell (op := .load 23 (.tmp 96)) (ty := 23) (d := some 97) (g := none) (by kernel_rfl) (by kernel_rfl) (by kernel_rfl) (Tells.load_box (i := 0) (b := b1) (o := 3) (agg := false) (by rfl) ag23 (by kernel_rfl) (fun _ => rfl) (Nat.le_of_ble_eq_true rfl) (v := .slice Aa0_f3 a0.f3.length ca0_f3) (by kernel_rfl)) ?_
                              refine WL.pure 2 3 [1, 3, 4, 6, 97, 98] (L' := [(1, .pointer (some ⟨b1, 0, none⟩)), (3, .bool (a0.f1 == 0)), (4, .bool ((a0.f2.length : Int) == 0)), (6, .int .i64 y77), (97, .slice Aa0_f3 a0.f3.length ca0_f3), (98, .int .i64 y77)]) (by kernel_rfl) (by decide) ?_
                              by_cases hb81 : 0 ≤ y77 ∧ y77 < (a0.f3.length : Int)
                              case neg => rw [if_neg hb81] at h; cases h
                              rw [if_pos hb81] at h
                              refine WL.tell (op := .indexAddr 23 (.tmp 97) (.tmp 98)) (ty := 0) (d := some 99) (g := none) (by kernel_rfl) (by kernel_rfl) (by kernel_rfl) (Tells.indexAddr (A := Aa0_f3) (n := a0.f3.length) (c := ca0_f3) (k := .i64) (j := y77) (by kernel_rfl) (by kernel_rfl) (Ha0_f3.isSome hb81.1 hb81.2) hb81.1 hb81.2 sl23) ?_
                              refine WL.tellE (op := .load 25 (.tmp 99)) (ty := 25) (d := some 100) (g := none) (by kernel_rfl) (by kernel_rfl) (by kernel_rfl) (Ha0_f3.load (agg := true) hb81.1 hb81.2 z25 ag25 (fun h => by cases h) (by kernel_rfl)) ?_
                              rintro _ hrel
                              obtain ⟨_, _, rfl, rfl, ⟨_, _, rfl, rfl, ⟨_, _, rfl, ⟨Ae82, ce82, rfl, He82⟩, ⟨Ae83, ce83, rfl, He83⟩⟩⟩⟩ := k25_out hrel
                              replace He82 : Rd kStr G Ae82 ce82 ((a0.f3.getD y77.toNat z25).f2) := He82
                              replace He83 : Rd k25 G Ae83 ce83 ((a0.f3.getD y77.toNat z25).f3) := He83
                              rw [Option.bind_eq_some_iff] at h
                              obtain ⟨t84, ht85, h⟩ := h
                              refine WL.op (op := .call { callee := (.value (.func 53)), args := #[(.tmp 100)], argTypes := #[25] }) (ty := 4) (d := some 101) (g := none) (by kernel_rfl) (by kernel_rfl) (by kernel_rfl) (Does.call (f := 53) (args := [.agg #[.int .i64 ((a0.f3.getD y77.toNat z25).f0), .int .i64 ((a0.f3.getD y77.toNat z25).f1), .slice Ae82 ((a0.f3.getD y77.toNat z25).f2).length ce82, .slice Ae83 ((a0.f3.getD y77.toNat z25).f3).length ce83]]) (by kernel_rfl) (fun W hI => (ih HT (a0.f3.getD y77.toNat z25) Ae82 ce82 He82 Ae83 ce83 He83 t84 ht85 hI))) ?_
                              rintro _ _ _ ⟨rfl, rfl, rfl⟩
                              refine WL.restQ 6 [1, 3, 4, 6, 102] (L' := [(1, .pointer (some ⟨b1, 0, none⟩)), (3, .bool (a0.f1 == 0)), (4, .bool ((a0.f2.length : Int) == 0)), (6, .int .i64 y77), (102, .bool (!t84))]) (by kernel_rfl) ?_
                              refine WP.cond (b := (!t84)) (by kernel_rfl) (fun hc => ?_) (fun hc => ?_)
                              · replace hc := hc
                                rw [if_pos hc] at h
                                have hc88 := hc
                                clear hc
                                refine WP.seqP [2] (L' := [(2, .bool false)]) (by kernel_rfl) ?_
                                refine WP.dropAt 0 ?_
                                refine WP.ret ?_
                                refine QP.blockR ?_
                                refine QP.thenR ?_
                                refine QP.thenR ?_
                                refine QP.blockR ?_
                                refine QP.thenR ?_
                                refine QP.thenR ?_
                                obtain rfl := Option.some.inj h
                                obtain rfl := Option.some.inj (show some _ = some _ from hk76)
                                exact QP.returned [2] [.bool false] _ (by kernel_rfl) (by kernel_rfl) (by kernel_rfl) (fun W hI => ⟨_, _, _, rfl, ⟨rfl, rfl, rfl⟩, hI⟩)
                              · replace hc := (Bool.eq_false_iff.1 hc)
                                rw [if_neg hc] at h
                                have hc88 := hc
                                clear hc
                                refine WP.skip ?_
                                refine QP.blockN ?_
                                refine QP.next ?_
                                refine WP.pick [1, 3, 4, 6] ?_
                                refine WP.regionP [1, 3, 4, 6] (L' := [(1, .pointer (some ⟨b1, 0, none⟩)), (3, .bool (a0.f1 == 0)), (4, .bool ((a0.f2.length : Int) == 0)), (6, .int .i64 (IntKind.i64.wrap (y77 + 1)))]) (by kernel_rfl) ?_
                                refine QP.pick [1, 3, 4, 6] ?_
                                exact QP.meet ⟨kn79, Nat.lt_succ_self _, (IntKind.i64.wrap (y77 + 1)), h, rfl, rfl, rfl⟩
                            · replace hc := of_decide_eq_false hc
                              rw [if_neg hc] at h
                              have hc80 := hc
                              clear hc
                              refine WP.exit ?_
                              refine QP.thenE ?_
                              refine QP.thenE ?_
                              refine QP.blockE ?_
                              refine QP.dropAt 0 ?_
                              refine QP.pick [3, 4] ?_
                              exact QP.meet ⟨_, Option.some.inj h, rfl, rfl, rfl⟩
                        · rintro _ _ _ ⟨s75, rfl, rfl, rfl, rfl⟩
                          clear h
                          replace h := hk76
                          dsimp only at h
                          refine QP.next ?_
                          refine WP.pick [3, 4] ?_
                          rw [Option.bind_eq_some_iff] at h
                          obtain ⟨os89, h, hk90⟩ := h
                          refine WP.cut (fun L' G' Γ' => ∃ s89 : Bool, s89 = os89 ∧ L' = [(2, .bool s89)] ∧ G = G' ∧ Γ = Γ') ?_ ?_
                          · clear hk90
                            refine WP.region ?_
                            refine WL.pure 0 2 [4, 104] (L' := [(4, .bool ((a0.f2.length : Int) == 0)), (104, .bool (a0.f1 == 0))]) (by kernel_rfl) (by decide) ?_
                            refine WL.split 104 (b := (a0.f1 == 0)) (by kernel_rfl) (fun hc => ?_) (fun hc => ?_)
                            · replace hc := eq_of_beq hc
                              rw [if_pos hc] at h
                              have hc91 := hc
                              clear hc
                              refine WL.rest 2 [2] (L' := [(2, .bool ((a0.f2.length : Int) == 0))]) (by kernel_rfl) ?_
                              refine QP.pick [2] ?_
                              exact QP.meet ⟨_, Option.some.inj h, rfl, rfl, rfl⟩
                            · replace hc := ne_of_beq_false hc
                              rw [if_neg hc] at h
                              have hc91 := hc
                              clear hc
                              refine WL.rest 2 [2] (L' := [(2, .bool false)]) (by kernel_rfl) ?_
                              refine QP.pick [2] ?_
                              exact QP.meet ⟨_, Option.some.inj h, rfl, rfl, rfl⟩
                          · rintro _ _ _ ⟨s89, rfl, rfl, rfl, rfl⟩
                            clear h
                            replace h := hk90
                            refine WP.ret ?_
                            obtain rfl := Option.some.inj h
                            exact QP.returned [2] [.bool s89] _ (by kernel_rfl) (by kernel_rfl) (by kernel_rfl) (fun W hI => ⟨_, _, _, rfl, ⟨rfl, rfl, rfl⟩, hI⟩)
                    · replace hc := ne_of_beq_false hc
                      rw [if_neg hc] at h
                      have hc73 := hc
                      clear hc
                      refine WP.seqP [2] (L' := [(2, .bool false)]) (by kernel_rfl) ?_
                      refine WP.dropAt 0 ?_
                      refine WP.ret ?_
                      refine QP.blockR ?_
                      refine QP.thenR ?_
                      obtain rfl := Option.some.inj h
                      exact QP.returned [2] [.bool false] _ (by kernel_rfl) (by kernel_rfl) (by kernel_rfl) (fun W hI => ⟨_, _, _, rfl, ⟨rfl, rfl, rfl⟩, hI⟩)
            · replace hc := ne_of_beq_false hc
              rw [if_neg hc] at h
              have hc27 := hc
              clear hc
              refine WP.regionP [1, 3, 4, 5, 19, 59] (L' := [(1, .pointer (some ⟨b1, 0, none⟩)), (3, .bool (a0.f1 == 0)), (4, .bool ((a0.f2.length : Int) == 0)), (5, .bool ((a0.f3.length : Int) == 0)), (19, .int .i64 a0.f0), (59, .bool (a0.f0 == 6))]) (by kernel_rfl) ?_
              refine QP.next ?_
              refine WP.pick [1, 3, 4, 5, 19, 59] ?_
              refine WP.cond (b := (a0.f0 == 6)) (by kernel_rfl) (fun hc => ?_) (fun hc => ?_)
              · replace hc := eq_of_beq hc
                rw [if_pos hc] at h
                have hc92 := hc
                clear hc
                rw [Option.bind_eq_some_iff] at h
                obtain ⟨os93, h, hk94⟩ := h
                refine WP.cut (fun L' G' Γ' => ∃ s93 : Bool, s93 = os93 ∧ L' = [(2, .bool s93)] ∧ G = G' ∧ Γ = Γ') ?_ ?_
                · clear hk94
                  refine WP.region ?_
                  refine WL.pure 0 2 [1, 5, 63] (L' := [(1, .pointer (some ⟨b1, 0, none⟩)), (5, .bool ((a0.f3.length : Int) == 0)), (63, .bool ((a0.f2.length : Int) == 0))]) (by kernel_rfl) (by decide) ?_
                  refine WL.split 63 (b := ((a0.f2.length : Int) == 0)) (by kernel_rfl) (fun hc => ?_) (fun hc => ?_)
                  · replace hc := eq_of_beq hc
                    rw [if_pos hc] at h
                    have hc95 := hc
                    clear hc
                    refine WL.pure 2 5 [1, 66] (L' := [(1, .pointer (some ⟨b1, 0, none⟩)), (66, .bool ((a0.f3.length : Int) == 0))]) (by kernel_rfl) (by decide) ?_
                    refine WL.split 66 (b := ((a0.f3.length : Int) == 0)) (by kernel_rfl) (fun hc => ?_) (fun hc => ?_)
                    · replace hc := eq_of_beq hc
                      rw [if_pos hc] at h
                      have hc96 := hc
                      clear hc
                      refine WL.pure 5 6 [1, 66, 67] (L' := [(1, .pointer (some ⟨b1, 0, none⟩)), (66, .bool true), (67, .pointer (some ⟨b1, 1, none⟩))]) (by kernel_rfl) (by decide) ?_
                      refine WL.tell (op := .load 3 (.tmp 67)) (ty := 3) (d := some 68) (g := some (4, true)) (by kernel_rfl) (by kernel_rfl) (by kernel_rfl) (Tells.load_box (i := 0) (b := b1) (o := 1) (agg := false) (by rfl) ag3 (by kernel_rfl) (fun _ => rfl) (Nat.le_of_ble_eq_true rfl) (v := .int .i64 a0.f1) (by kernel_rfl)) ?_
                      refine WL.pure 7 10 [1, 71] (L' := [(1, .pointer (some ⟨b1, 0, none⟩)), (71, .bool (decide (a0.f1 ≥ 0)))]) (by kernel_rfl) (by decide) ?_
                      refine WL.split 71 (b := decide (a0.f1 ≥ 0)) (by kernel_rfl) (fun hc => ?_) (fun hc => ?_)
                      · replace hc := of_decide_eq_true hc
                        rw [if_pos hc] at h
                        have hc97 := hc
                        clear hc
                        refine WL.pure 10 11 [71, 72] (L' := [(71, .bool true), (72, .pointer (some ⟨b1, 1, none⟩))]) (by kernel_rfl) (by decide) ?_
                        refine WL.tell (op := .load 3 (.tmp 72)) (ty := 3) (d := some 73) (g := some (9, true)) (by kernel_rfl) (by kernel_rfl) (by kernel_rfl) (Tells.load_box (i := 0) (b := b1) (o := 1) (agg := false) (by rfl) ag3 (by kernel_rfl) (fun _ => rfl) (Nat.le_of_ble_eq_true rfl) (v := .int .i64 a0.f1) (by kernel_rfl)) ?_
                        refine WL.rest 12 [2] (L' := [(2, .bool (decide (a0.f1 ≤ 1099511627776)))]) (by kernel_rfl) ?_
                        refine QP.dropAt 0 ?_
                        refine QP.pick [2] ?_
                        exact QP.meet ⟨_, Option.some.inj h, rfl, rfl, rfl⟩
                      · replace hc := of_decide_eq_false hc
                        rw [if_neg hc] at h
                        have hc97 := hc
                        clear hc
                        refine WL.rest 10 [2] (L' := [(2, .bool false)]) (by kernel_rfl) ?_
                        refine QP.dropAt 0 ?_
                        refine QP.pick [2] ?_
                        exact QP.meet ⟨_, Option.some.inj h, rfl, rfl, rfl⟩
                    · replace hc := ne_of_beq_false hc
                      rw [if_neg hc] at h
                      have hc96 := hc
                      clear hc
                      refine WL.rest 5 [2] (L' := [(2, .bool false)]) (by kernel_rfl) ?_
                      refine QP.dropAt 0 ?_
                      refine QP.pick [2] ?_
                      exact QP.meet ⟨_, Option.some.inj h, rfl, rfl, rfl⟩
                  · replace hc := ne_of_beq_false hc
                    rw [if_neg hc] at h
                    have hc95 := hc
                    clear hc
                    refine WL.rest 2 [2] (L' := [(2, .bool false)]) (by kernel_rfl) ?_
                    refine QP.dropAt 0 ?_
                    refine QP.pick [2] ?_
                    exact QP.meet ⟨_, Option.some.inj h, rfl, rfl, rfl⟩
                · rintro _ _ _ ⟨s93, rfl, rfl, rfl, rfl⟩
                  clear h
                  replace h := hk94
                  refine WP.ret ?_
                  refine QP.blockR ?_
                  refine QP.thenR ?_
                  obtain rfl := Option.some.inj h
                  exact QP.returned [2] [.bool s93] _ (by kernel_rfl) (by kernel_rfl) (by kernel_rfl) (fun W hI => ⟨_, _, _, rfl, ⟨rfl, rfl, rfl⟩, hI⟩)
              · replace hc := ne_of_beq_false hc
                rw [if_neg hc] at h
                have hc92 := hc
                clear hc
                refine WP.seqP [1, 3, 4, 19, 76] (L' := [(1, .pointer (some ⟨b1, 0, none⟩)), (3, .bool (a0.f1 == 0)), (4, .bool ((a0.f2.length : Int) == 0)), (19, .int .i64 a0.f0), (76, .bool (a0.f0 == 9))]) (by kernel_rfl) ?_
                refine WP.cond (b := (a0.f0 == 9)) (by kernel_rfl) (fun hc => ?_) (fun hc => ?_)
                · replace hc := eq_of_beq hc
                  rw [if_pos hc] at h
                  have hc98 := hc
                  clear hc
                  refine WP.seqR ?_
                  refine WL.pure 0 1 [1, 3, 4, 78] (L' := [(1, .pointer (some ⟨b1, 0, none⟩)), (3, .bool (a0.f1 == 0)), (4, .bool ((a0.f2.length : Int) == 0)), (78, .pointer (some ⟨b1, 3, none⟩))]) (by kernel_rfl) (by decide) ?_
                  refine WL.tell (op := .load 23 (.tmp 78)) (ty := 23) (d := some 79) (g := none) (by kernel_rfl) (by kernel_rfl) (by kernel_rfl) (Tells.load_box (i := 0) (b := b1) (o := 3) (agg := false) (by rfl) ag23 (by kernel_rfl) (fun _ => rfl) (Nat.le_of_ble_eq_true rfl) (v := .slice Aa0_f3 a0.f3.length ca0_f3) (by kernel_rfl)) ?_
                  refine WL.restQ 2 [1, 3, 4, 81] (L' := [(1, .pointer (some ⟨b1, 0, none⟩)), (3, .bool (a0.f1 == 0)), (4, .bool ((a0.f2.length : Int) == 0)), (81, .bool ((a0.f3.length : Int) != 1))]) (by kernel_rfl) ?_
                  refine WP.cond (b := ((a0.f3.length : Int) != 1)) (by kernel_rfl) (fun hc => ?_) (fun hc => ?_)
                  · replace hc := (bne_iff_ne.1 hc)
                    rw [if_pos hc] at h
                    have hc99 := hc
                    clear hc
                    refine WP.seqP [2] (L' := [(2, .bool false)]) (by kernel_rfl) ?_
                    refine WP.dropAt 0 ?_
                    refine WP.ret ?_
                    refine QP.blockR ?_
                    refine QP.thenR ?_
                    obtain rfl := Option.some.inj h
                    exact QP.returned [2] [.bool false] _ (by kernel_rfl) (by kernel_rfl) (by kernel_rfl) (fun W hI => ⟨_, _, _, rfl, ⟨rfl, rfl, rfl⟩, hI⟩)
                  · replace hc := (not_not_intro (bne_eq_false_iff_eq.1 hc))
                    rw [if_neg hc] at h
                    have hc99 := hc
                    clear hc
                    refine WP.skip ?_
                    refine QP.blockN ?_
                    refine QP.next ?_
                    refine WP.pick [1, 3, 4] ?_
                    refine WP.seq ?_
                    refine WP.seqP [1, 3, 4, 6] (L' := [(1, .pointer (some ⟨b1, 0, none⟩)), (3, .bool (a0.f1 == 0)), (4, .bool ((a0.f2.length : Int) == 0)), (6, .int .i64 0)]) (by kernel_rfl) ?_
                    rw [Option.bind_eq_some_iff] at h
                    obtain ⟨os100, h, hk101⟩ := h
                    refine WP.cutQ (fun L' G' Γ' => ∃ s100 : Unit, Sum.inr s100 = os100 ∧ L' = [(3, .bool (a0.f1 == 0)), (4, .bool ((a0.f2.length : Int) == 0))] ∧ G = G' ∧ Γ = Γ') ?_ ?_
                    · skip
                      refine WP.block ?_
                      refine WP.pick [1, 3, 4, 6] ?_
                      refine WP.loopF (fun kn103 L' G' Γ' => ∃ (y102 : Int), grapevineref14_form_l3 a0 (grapevineref14_form kf) kn103 y102 = some os100 ∧ L' = [(1, .pointer (some ⟨b1, 0, none⟩)), (3, .bool (a0.f1 == 0)), (4, .bool ((a0.f2.length : Int) == 0)), (6, .int .i64 y102)] ∧ G = G' ∧ [(b1, .cells #[.int .i64 a0.f0, .int .i64 a0.f1, .slice Aa0_f2 a0.f2.length ca0_f2, .slice Aa0_f3 a0.f3.length ca0_f3] 25 (0, 0))] :: Γ = Γ') ?_ kf ⟨0, h, rfl, rfl, rfl⟩
                      clear h
                      rintro kn104 _ _ _ ⟨y102, h, rfl, rfl, rfl⟩
                      cases kn104 with
                      | zero => exact absurd h (by simp [grapevineref14_form_l3])
                      | succ kn104 =>
                        simp only [grapevineref14_form_l3] at h
                        refine WP.seq ?_
                        refine WP.seqR ?_
                        refine WL.pure 0 2 [1, 3, 4, 6, 89, 90] (L' := [(1, .pointer (some ⟨b1, 0, none⟩)), (3, .bool (a0.f1 == 0)), (4, .bool ((a0.f2.length : Int) == 0)), (6, .int .i64 y102), (89, .int .i64 y102), (90, .pointer (some ⟨b1, 3, none⟩))]) (by kernel_rfl) (by decide) ?_
                        refine WL.tell (op := .load 23 (.tmp 90)) (ty := 23) (d := some 91) (g := none) (by kernel_rfl) (by kernel_rfl) (by kernel_rfl) (Tells.load_box (i := 0) (b := b1) (o := 3) (agg := false) (by rfl) ag23 (by kernel_rfl) (fun _ => rfl) (Nat.le_of_ble_eq_true rfl) (v := .slice Aa0_f3 a0.f3.length ca0_f3) (by kernel_rfl)) ?_
                        refine WL.restQ 3 [1, 3, 4, 6, 93] (L' := [(1, .pointer (some ⟨b1, 0, none⟩)), (3, .bool (a0.f1 == 0)), (4, .bool ((a0.f2.length : Int) == 0)), (6, .int .i64 y102), (93, .bool (decide (y102 < (a0.f3.length : Int))))]) (by kernel_rfl) ?_
                        refine WP.cond (b := decide (y102 < (a0.f3.length : Int))) (by kernel_rfl) (fun hc => ?_) (fun hc => ?_)
                        · replace hc := of_decide_eq_true hc
                          rw [if_pos hc] at h
                          have hc105 := hc
                          clear hc
                          refine WP.skip ?_
                          refine QP.next ?_
                          refine WP.pick [1, 3, 4, 6] ?_
                          refine WP.seq ?_
                          refine WP.block ?_
                          refine WP.seqR ?_
                          refine WL.pure 0 1 [1, 3, 4, 6, 96] (L' := [(1, .pointer (some ⟨b1, 0, none⟩)), (3, .bool (a0.f1 == 0)), (4, .bool ((a0.f2.length : Int) == 0)), (6, .int .i64 y102), (96, .pointer (some ⟨b1, 3, none⟩))]) (by kernel_rfl) (by decide) ?_
                          refine WL.tell (op := .load 23 (.tmp 96)) (ty := 23) (d := some 97) (g := none) (by kernel_rfl) (by kernel_rfl) (by kernel_rfl) (Tells.load_box (i := 0) (b := b1) (o := 3) (agg := false) (by rfl) ag23 (by kernel_rfl) (fun _ => rfl) (Nat.le_of_ble_eq_true rfl) (v := .slice Aa0_f3 a0.f3.length ca0_f3) (by kernel_rfl)) ?_
                          refine WL.pure 2 3 [1, 3, 4, 6, 97, 98] (L' := [(1, .pointer (some ⟨b1, 0, none⟩)), (3, .bool (a0.f1 == 0)), (4, .bool ((a0.f2.length : Int) == 0)), (6, .int .i64 y102), (97, .slice Aa0_f3 a0.f3.length ca0_f3), (98, .int .i64 y102)]) (by kernel_rfl) (by decide) ?_
                          by_cases hb106 : 0 ≤ y102 ∧ y102 < (a0.f3.length : Int)
                          case neg => rw [if_neg hb106] at h; cases h
                          rw [if_pos hb106] at h
                          refine WL.tell (op := .indexAddr 23 (.tmp 97) (.tmp 98)) (ty := 0) (d := some 99) (g := none) (by kernel_rfl) (by kernel_rfl) (by kernel_rfl) (Tells.indexAddr (A := Aa0_f3) (n := a0.f3.length) (c := ca0_f3) (k := .i64) (j := y102) (by kernel_rfl) (by kernel_rfl) (Ha0_f3.isSome hb106.1 hb106.2) hb106.1 hb106.2 sl23) ?_
                          refine WL.tellE (op := .load 25 (.tmp 99)) (ty := 25) (d := some 100) (g := none) (by kernel_rfl) (by kernel_rfl) (by kernel_rfl) (Ha0_f3.load (agg := true) hb106.1 hb106.2 z25 ag25 (fun h => by cases h) (by kernel_rfl)) ?_
                          rintro _ hrel
                          obtain ⟨_, _, rfl, rfl, ⟨_, _, rfl, rfl, ⟨_, _, rfl, ⟨Ae107, ce107, rfl, He107⟩, ⟨Ae108, ce108, rfl, He108⟩⟩⟩⟩ := k25_out hrel
                          replace He107 : Rd kStr G Ae107 ce107 ((a0.f3.getD y102.toNat z25).f2) := He107
                          replace He108 : Rd k25 G Ae108 ce108 ((a0.f3.getD y102.toNat z25).f3) := He108
                          rw [Option.bind_eq_some_iff] at h
                          obtain ⟨t109, ht110, h⟩ := h
                          refine WL.op (op := .call { callee := (.value (.func 53)), args := #[(.tmp 100)], argTypes := #[25] }) (ty := 4) (d := some 101) (g := none) (by kernel_rfl) (by kernel_rfl) (by kernel_rfl) (Does.call (f := 53) (args := [.agg #[.int .i64 ((a0.f3.getD y102.toNat z25).f0), .int .i64 ((a0.f3.getD y102.toNat z25).f1), .slice Ae107 ((a0.f3.getD y102.toNat z25).f2).length ce107, .slice Ae108 ((a0.f3.getD y102.toNat z25).f3).length ce108]]) (by kernel_rfl) (fun W hI => (ih HT (a0.f3.getD y102.toNat z25) Ae107 ce107 He107 Ae108 ce108 He108 t109 ht110 hI))) ?_
                          rintro _ _ _ ⟨rfl, rfl, rfl⟩
                          refine WL.restQ 6 [1, 3, 4, 6, 102] (L' := [(1, .pointer (some ⟨b1, 0, none⟩)), (3, .bool (a0.f1 == 0)), (4, .bool ((a0.f2.length : Int) == 0)), (6, .int .i64 y102), (102, .bool (!t109))]) (by kernel_rfl) ?_
                          refine WP.cond (b := (!t109)) (by kernel_rfl) (fun hc => ?_) (fun hc => ?_)
                          · replace hc := hc
                            rw [if_pos hc] at h
                            have hc113 := hc
                            clear hc
                            refine WP.seqP [2] (L' := [(2, .bool false)]) (by kernel_rfl) ?_
                            refine WP.dropAt 0 ?_
                            refine WP.ret ?_
                            refine QP.blockR ?_
                            refine QP.thenR ?_
                            refine QP.thenR ?_
                            refine QP.blockR ?_
                            refine QP.thenR ?_
                            refine QP.thenR ?_
                            obtain rfl := Option.some.inj h
                            obtain rfl := Option.some.inj (show some _ = some _ from hk101)
                            exact QP.returned [2] [.bool false] _ (by kernel_rfl) (by kernel_rfl) (by kernel_rfl) (fun W hI => ⟨_, _, _, rfl, ⟨rfl, rfl, rfl⟩, hI⟩)
                          · replace hc := (Bool.eq_false_iff.1 hc)
                            rw [if_neg hc] at h
                            have hc113 := hc
                            clear hc
                            refine WP.skip ?_
                            refine QP.blockN ?_
                            refine QP.next ?_
                            refine WP.pick [1, 3, 4, 6] ?_
                            refine WP.regionP [1, 3, 4, 6] (L' := [(1, .pointer (some ⟨b1, 0, none⟩)), (3, .bool (a0.f1 == 0)), (4, .bool ((a0.f2.length : Int) == 0)), (6, .int .i64 (IntKind.i64.wrap (y102 + 1)))]) (by kernel_rfl) ?_
                            refine QP.pick [1, 3, 4, 6] ?_
                            exact QP.meet ⟨kn104, Nat.lt_succ_self _, (IntKind.i64.wrap (y102 + 1)), h, rfl, rfl, rfl⟩
                        · replace hc := of_decide_eq_false hc
                          rw [if_neg hc] at h
                          have hc105 := hc
                          clear hc
                          refine WP.exit ?_
                          refine QP.thenE ?_
                          refine QP.thenE ?_
                          refine QP.blockE ?_
                          refine QP.dropAt 0 ?_
                          refine QP.pick [3, 4] ?_
                          exact QP.meet ⟨_, Option.some.inj h, rfl, rfl, rfl⟩
                    · rintro _ _ _ ⟨s100, rfl, rfl, rfl, rfl⟩
                      clear h
                      replace h := hk101
                      dsimp only at h
                      refine QP.next ?_
                      refine WP.pick [3, 4] ?_
                      rw [Option.bind_eq_some_iff] at h
                      obtain ⟨os114, h, hk115⟩ := h
                      refine WP.cut (fun L' G' Γ' => ∃ s114 : Bool, s114 = os114 ∧ L' = [(2, .bool s114)] ∧ G = G' ∧ Γ = Γ') ?_ ?_
                      · clear hk115
                        refine WP.region ?_
                        refine WL.pure 0 2 [4, 104] (L' := [(4, .bool ((a0.f2.length : Int) == 0)), (104, .bool (a0.f1 == 0))]) (by kernel_rfl) (by decide) ?_
                        refine WL.split 104 (b := (a0.f1 == 0)) (by kernel_rfl) (fun hc => ?_) (fun hc => ?_)
                        · replace hc := eq_of_beq hc
                          rw [if_pos hc] at h
                          have hc116 := hc
                          clear hc
                          refine WL.rest 2 [2] (L' := [(2, .bool ((a0.f2.length : Int) == 0))]) (by kernel_rfl) ?_
                          refine QP.pick [2] ?_
                          exact QP.meet ⟨_, Option.some.inj h, rfl, rfl, rfl⟩
                        · replace hc := ne_of_beq_false hc
                          rw [if_neg hc] at h
                          have hc116 := hc
                          clear hc
                          refine WL.rest 2 [2] (L' := [(2, .bool false)]) (by kernel_rfl) ?_
                          refine QP.pick [2] ?_
                          exact QP.meet ⟨_, Option.some.inj h, rfl, rfl, rfl⟩
                      · rintro _ _ _ ⟨s114, rfl, rfl, rfl, rfl⟩
                        clear h
                        replace h := hk115
                        refine WP.ret ?_
                        obtain rfl := Option.some.inj h
                        exact QP.returned [2] [.bool s114] _ (by kernel_rfl) (by kernel_rfl) (by kernel_rfl) (fun W hI => ⟨_, _, _, rfl, ⟨rfl, rfl, rfl⟩, hI⟩)
                · replace hc := ne_of_beq_false hc
                  rw [if_neg hc] at h
                  have hc98 := hc
                  clear hc
                  refine WP.seq ?_
                  refine WP.seqP [1, 3, 4, 19, 82] (L' := [(1, .pointer (some ⟨b1, 0, none⟩)), (3, .bool (a0.f1 == 0)), (4, .bool ((a0.f2.length : Int) == 0)), (19, .int .i64 a0.f0), (82, .bool (a0.f0 == 7))]) (by kernel_rfl) ?_
                  refine WP.cond (b := (a0.f0 == 7)) (by kernel_rfl) (fun hc => ?_) (fun hc => ?_)
                  · replace hc := eq_of_beq hc
                    rw [if_pos hc] at h
                    have hc117 := hc
                    clear hc
                    refine WP.skip ?_
                    refine QP.next ?_
                    refine WP.pick [1, 3, 4, 82] ?_
                    refine WP.cond (b := (a0.f0 == 7)) (by kernel_rfl) (fun hc => ?_) (fun hc => ?_)
                    · replace hc := eq_of_beq hc
                      rw [if_pos hc] at h
                      have hc118 := hc
                      clear hc
                      refine WP.seqR ?_
                      refine WL.pure 0 1 [1, 3, 4, 85] (L' := [(1, .pointer (some ⟨b1, 0, none⟩)), (3, .bool (a0.f1 == 0)), (4, .bool ((a0.f2.length : Int) == 0)), (85, .pointer (some ⟨b1, 3, none⟩))]) (by kernel_rfl) (by decide) ?_
                      refine WL.tell (op := .load 23 (.tmp 85)) (ty := 23) (d := some 86) (g := none) (by kernel_rfl) (by kernel_rfl) (by kernel_rfl) (Tells.load_box (i := 0) (b := b1) (o := 3) (agg := false) (by rfl) ag23 (by kernel_rfl) (fun _ => rfl) (Nat.le_of_ble_eq_true rfl) (v := .slice Aa0_f3 a0.f3.length ca0_f3) (by kernel_rfl)) ?_
                      refine WL.restQ 2 [1, 3, 4, 88] (L' := [(1, .pointer (some ⟨b1, 0, none⟩)), (3, .bool (a0.f1 == 0)), (4, .bool ((a0.f2.length : Int) == 0)), (88, .bool (decide ((a0.f3.length : Int) < 2)))]) (by kernel_rfl) ?_
                      refine WP.cond (b := decide ((a0.f3.length : Int) < 2)) (by kernel_rfl) (fun hc => ?_) (fun hc => ?_)
                      · replace hc := of_decide_eq_true hc
                        rw [if_pos hc] at h
                        have hc119 := hc
                        clear hc
                        refine WP.seqP [2] (L' := [(2, .bool false)]) (by kernel_rfl) ?_
                        refine WP.dropAt 0 ?_
                        refine WP.ret ?_
                        refine QP.blockR ?_
                        refine QP.thenR ?_
                        obtain rfl := Option.some.inj h
                        exact QP.returned [2] [.bool false] _ (by kernel_rfl) (by kernel_rfl) (by kernel_rfl) (fun W hI => ⟨_, _, _, rfl, ⟨rfl, rfl, rfl⟩, hI⟩)
                      · replace hc := of_decide_eq_false hc
                        rw [if_neg hc] at h
                        have hc119 := hc
                        clear hc
                        refine WP.skip ?_
                        refine QP.blockN ?_
                        refine QP.next ?_
                        refine WP.pick [1, 3, 4] ?_
                        refine WP.seq ?_
                        refine WP.seqP [1, 3, 4, 6] (L' := [(1, .pointer (some ⟨b1, 0, none⟩)), (3, .bool (a0.f1 == 0)), (4, .bool ((a0.f2.length : Int) == 0)), (6, .int .i64 0)]) (by kernel_rfl) ?_
                        rw [Option.bind_eq_some_iff] at h
                        obtain ⟨os120, h, hk121⟩ := h
                        refine WP.cutQ (fun L' G' Γ' => ∃ s120 : Unit, Sum.inr s120 = os120 ∧ L' = [(3, .bool (a0.f1 == 0)), (4, .bool ((a0.f2.length : Int) == 0))] ∧ G = G' ∧ Γ = Γ') ?_ ?_
                        · skip
                          refine WP.block ?_
                          refine WP.pick [1, 3, 4, 6] ?_
                          refine WP.loopF (fun kn123 L' G' Γ' => ∃ (y122 : Int), grapevineref14_form_l4 a0 (grapevineref14_form kf) kn123 y122 = some os120 ∧ L' = [(1, .pointer (some ⟨b1, 0, none⟩)), (3, .bool (a0.f1 == 0)), (4, .bool ((a0.f2.length : Int) == 0)), (6, .int .i64 y122)] ∧ G = G' ∧ [(b1, .cells #[.int .i64 a0.f0, .int .i64 a0.f1, .slice Aa0_f2 a0.f2.length ca0_f2, .slice Aa0_f3 a0.f3.length ca0_f3] 25 (0, 0))] :: Γ = Γ') ?_ kf ⟨0, h, rfl, rfl, rfl⟩
                          clear h
                          rintro kn124 _ _ _ ⟨y122, h, rfl, rfl, rfl⟩
                          cases kn124 with
                          | zero => exact absurd h (by simp [grapevineref14_form_l4])
                          | succ kn124 =>
                            simp only [grapevineref14_form_l4] at h
                            refine WP.seq ?_
                            refine WP.seqR ?_
                            refine WL.pure 0 2 [1, 3, 4, 6, 89, 90] (L' := [(1, .pointer (some ⟨b1, 0, none⟩)), (3, .bool (a0.f1 == 0)), (4, .bool ((a0.f2.length : Int) == 0)), (6, .int .i64 y122), (89, .int .i64 y122), (90, .pointer (some ⟨b1, 3, none⟩))]) (by kernel_rfl) (by decide) ?_
                            refine WL.tell (op := .load 23 (.tmp 90)) (ty := 23) (d := some 91) (g := none) (by kernel_rfl) (by kernel_rfl) (by kernel_rfl) (Tells.load_box (i := 0) (b := b1) (o := 3) (agg := false) (by rfl) ag23 (by kernel_rfl) (fun _ => rfl) (Nat.le_of_ble_eq_true rfl) (v := .slice Aa0_f3 a0.f3.length ca0_f3) (by kernel_rfl)) ?_
                            refine WL.restQ 3 [1, 3, 4, 6, 93] (L' := [(1, .pointer (some ⟨b1, 0, none⟩)), (3, .bool (a0.f1 == 0)), (4, .bool ((a0.f2.length : Int) == 0)), (6, .int .i64 y122), (93, .bool (decide (y122 < (a0.f3.length : Int))))]) (by kernel_rfl) ?_
                            refine WP.cond (b := decide (y122 < (a0.f3.length : Int))) (by kernel_rfl) (fun hc => ?_) (fun hc => ?_)
                            · replace hc := of_decide_eq_true hc
                              rw [if_pos hc] at h
                              have hc125 := hc
                              clear hc
                              refine WP.skip ?_
                              refine QP.next ?_
                              refine WP.pick [1, 3, 4, 6] ?_
                              refine WP.seq ?_
                              refine WP.block ?_
                              refine WP.seqR ?_
                              refine WL.pure 0 1 [1, 3, 4, 6, 96] (L' := [(1, .pointer (some ⟨b1, 0, none⟩)), (3, .bool (a0.f1 == 0)), (4, .bool ((a0.f2.length : Int) == 0)), (6, .int .i64 y122), (96, .pointer (some ⟨b1, 3, none⟩))]) (by kernel_rfl) (by decide) ?_
                              refine WL.tell (op := .load 23 (.tmp 96)) (ty := 23) (d := some 97) (g := none) (by kernel_rfl) (by kernel_rfl) (by kernel_rfl) (Tells.load_box (i := 0) (b := b1) (o := 3) (agg := false) (by rfl) ag23 (by kernel_rfl) (fun _ => rfl) (Nat.le_of_ble_eq_true rfl) (v := .slice Aa0_f3 a0.f3.length ca0_f3) (by kernel_rfl)) ?_
                              refine WL.pure 2 3 [1, 3, 4, 6, 97, 98] (L' := [(1, .pointer (some ⟨b1, 0, none⟩)), (3, .bool (a0.f1 == 0)), (4, .bool ((a0.f2.length : Int) == 0)), (6, .int .i64 y122), (97, .slice Aa0_f3 a0.f3.length ca0_f3), (98, .int .i64 y122)]) (by kernel_rfl) (by decide) ?_
                              by_cases hb126 : 0 ≤ y122 ∧ y122 < (a0.f3.length : Int)
                              case neg => rw [if_neg hb126] at h; cases h
                              rw [if_pos hb126] at h
                              refine WL.tell (op := .indexAddr 23 (.tmp 97) (.tmp 98)) (ty := 0) (d := some 99) (g := none) (by kernel_rfl) (by kernel_rfl) (by kernel_rfl) (Tells.indexAddr (A := Aa0_f3) (n := a0.f3.length) (c := ca0_f3) (k := .i64) (j := y122) (by kernel_rfl) (by kernel_rfl) (Ha0_f3.isSome hb126.1 hb126.2) hb126.1 hb126.2 sl23) ?_
                              refine WL.tellE (op := .load 25 (.tmp 99)) (ty := 25) (d := some 100) (g := none) (by kernel_rfl) (by kernel_rfl) (by kernel_rfl) (Ha0_f3.load (agg := true) hb126.1 hb126.2 z25 ag25 (fun h => by cases h) (by kernel_rfl)) ?_
                              rintro _ hrel
                              obtain ⟨_, _, rfl, rfl, ⟨_, _, rfl, rfl, ⟨_, _, rfl, ⟨Ae127, ce127, rfl, He127⟩, ⟨Ae128, ce128, rfl, He128⟩⟩⟩⟩ := k25_out hrel
                              replace He127 : Rd kStr G Ae127 ce127 ((a0.f3.getD y122.toNat z25).f2) := He127
                              replace He128 : Rd k25 G Ae128 ce128 ((a0.f3.getD y122.toNat z25).f3) := He128
                              rw [Option.bind_eq_some_iff] at h
                              obtain ⟨t129, ht130, h⟩ := h
                              refine WL.op (op := .call { callee := (.value (.func 53)), args := #[(.tmp 100)], argTypes := #[25] }) (ty := 4) (d := some 101) (g := none) (by kernel_rfl) (by kernel_rfl) (by kernel_rfl) (Does.call (f := 53) (args := [.agg #[.int .i64 ((a0.f3.getD y122.toNat z25).f0), .int .i64 ((a0.f3.getD y122.toNat z25).f1), .slice Ae127 ((a0.f3.getD y122.toNat z25).f2).length ce127, .slice Ae128 ((a0.f3.getD y122.toNat z25).f3).length ce128]]) (by kernel_rfl) (fun W hI => (ih HT (a0.f3.getD y122.toNat z25) Ae127 ce127 He127 Ae128 ce128 He128 t129 ht130 hI))) ?_
                              rintro _ _ _ ⟨rfl, rfl, rfl⟩
                              refine WL.restQ 6 [1, 3, 4, 6, 102] (L' := [(1, .pointer (some ⟨b1, 0, none⟩)), (3, .bool (a0.f1 == 0)), (4, .bool ((a0.f2.length : Int) == 0)), (6, .int .i64 y122), (102, .bool (!t129))]) (by kernel_rfl) ?_
                              refine WP.cond (b := (!t129)) (by kernel_rfl) (fun hc => ?_) (fun hc => ?_)
                              · replace hc := hc
                                rw [if_pos hc] at h
                                have hc133 := hc
                                clear hc
                                refine WP.seqP [2] (L' := [(2, .bool false)]) (by kernel_rfl) ?_
                                refine WP.dropAt 0 ?_
                                refine WP.ret ?_
                                refine QP.blockR ?_
                                refine QP.thenR ?_
                                refine QP.thenR ?_
                                refine QP.blockR ?_
                                refine QP.thenR ?_
                                refine QP.thenR ?_
                                obtain rfl := Option.some.inj h
                                obtain rfl := Option.some.inj (show some _ = some _ from hk121)
                                exact QP.returned [2] [.bool false] _ (by kernel_rfl) (by kernel_rfl) (by kernel_rfl) (fun W hI => ⟨_, _, _, rfl, ⟨rfl, rfl, rfl⟩, hI⟩)
                              · replace hc := (Bool.eq_false_iff.1 hc)
                                rw [if_neg hc] at h
                                have hc133 := hc
                                clear hc
                                refine WP.skip ?_
                                refine QP.blockN ?_
                                refine QP.next ?_
                                refine WP.pick [1, 3, 4, 6] ?_
                                refine WP.regionP [1, 3, 4, 6] (L' := [(1, .pointer (some ⟨b1, 0, none⟩)), (3, .bool (a0.f1 == 0)), (4, .bool ((a0.f2.length : Int) == 0)), (6, .int .i64 (IntKind.i64.wrap (y122 + 1)))]) (by kernel_rfl) ?_
                                refine QP.pick [1, 3, 4, 6] ?_
                                exact QP.meet ⟨kn124, Nat.lt_succ_self _, (IntKind.i64.wrap (y122 + 1)), h, rfl, rfl, rfl⟩
                            · replace hc := of_decide_eq_false hc
                              rw [if_neg hc] at h
                              have hc125 := hc
                              clear hc
                              refine WP.exit ?_
                              refine QP.thenE ?_
                              refine QP.thenE ?_
                              refine QP.blockE ?_
                              refine QP.dropAt 0 ?_
                              refine QP.pick [3, 4] ?_
                              exact QP.meet ⟨_, Option.some.inj h, rfl, rfl, rfl⟩
                        · rintro _ _ _ ⟨s120, rfl, rfl, rfl, rfl⟩
                          clear h
                          replace h := hk121
                          dsimp only at h
                          refine QP.next ?_
                          refine WP.pick [3, 4] ?_
                          rw [Option.bind_eq_some_iff] at h
                          obtain ⟨os134, h, hk135⟩ := h
                          refine WP.cut (fun L' G' Γ' => ∃ s134 : Bool, s134 = os134 ∧ L' = [(2, .bool s134)] ∧ G = G' ∧ Γ = Γ') ?_ ?_
                          · clear hk135
                            refine WP.region ?_
                            refine WL.pure 0 2 [4, 104] (L' := [(4, .bool ((a0.f2.length : Int) == 0)), (104, .bool (a0.f1 == 0))]) (by kernel_rfl) (by decide) ?_
                            refine WL.split 104 (b := (a0.f1 == 0)) (by kernel_rfl) (fun hc => ?_) (fun hc => ?_)
                            · replace hc := eq_of_beq hc
                              rw [if_pos hc] at h
                              have hc136 := hc
                              clear hc
                              refine WL.rest 2 [2] (L' := [(2, .bool ((a0.f2.length : Int) == 0))]) (by kernel_rfl) ?_
                              refine QP.pick [2] ?_
                              exact QP.meet ⟨_, Option.some.inj h, rfl, rfl, rfl⟩
                            · replace hc := ne_of_beq_false hc
                              rw [if_neg hc] at h
                              have hc136 := hc
                              clear hc
                              refine WL.rest 2 [2] (L' := [(2, .bool false)]) (by kernel_rfl) ?_
                              refine QP.pick [2] ?_
                              exact QP.meet ⟨_, Option.some.inj h, rfl, rfl, rfl⟩
                          · rintro _ _ _ ⟨s134, rfl, rfl, rfl, rfl⟩
                            clear h
                            replace h := hk135
                            refine WP.ret ?_
                            obtain rfl := Option.some.inj h
                            exact QP.returned [2] [.bool s134] _ (by kernel_rfl) (by kernel_rfl) (by kernel_rfl) (fun W hI => ⟨_, _, _, rfl, ⟨rfl, rfl, rfl⟩, hI⟩)
                    · replace hc := ne_of_beq_false hc
                      rw [if_neg hc] at h
                      have hc118 := hc
                      clear hc
                      refine WP.seqP [2] (L' := [(2, .bool false)]) (by kernel_rfl) ?_
                      refine WP.dropAt 0 ?_
                      refine WP.ret ?_
                      refine QP.blockR ?_
                      refine QP.thenR ?_
                      obtain rfl := Option.some.inj h
                      exact QP.returned [2] [.bool false] _ (by kernel_rfl) (by kernel_rfl) (by kernel_rfl) (fun W hI => ⟨_, _, _, rfl, ⟨rfl, rfl, rfl⟩, hI⟩)
                  · replace hc := ne_of_beq_false hc
                    rw [if_neg hc] at h
                    have hc117 := hc
                    clear hc
                    refine WP.regionP [1, 3, 4, 82] (L' := [(1, .pointer (some ⟨b1, 0, none⟩)), (3, .bool (a0.f1 == 0)), (4, .bool ((a0.f2.length : Int) == 0)), (82, .bool (a0.f0 == 8))]) (by kernel_rfl) ?_
                    refine QP.next ?_
                    refine WP.pick [1, 3, 4, 82] ?_
                    refine WP.cond (b := (a0.f0 == 8)) (by kernel_rfl) (fun hc => ?_) (fun hc => ?_)
                    · replace hc := eq_of_beq hc
                      rw [if_pos hc] at h
                      have hc137 := hc
                      clear hc
                      refine WP.seqR ?_
                      refine WL.pure 0 1 [1, 3, 4, 85] (L' := [(1, .pointer (some ⟨b1, 0, none⟩)), (3, .bool (a0.f1 == 0)), (4, .bool ((a0.f2.length : Int) == 0)), (85, .pointer (some ⟨b1, 3, none⟩))]) (by kernel_rfl) (by decide) ?_
                      refine WL.tell (op := .load 23 (.tmp 85)) (ty := 23) (d := some 86) (g := none) (by kernel_rfl) (by kernel_rfl) (by kernel_rfl) (Tells.load_box (i := 0) (b := b1) (o := 3) (agg := false) (by rfl) ag23 (by kernel_rfl) (fun _ => rfl) (Nat.le_of_ble_eq_true rfl) (v := .slice Aa0_f3 a0.f3.length ca0_f3) (by kernel_rfl)) ?_
                      refine WL.restQ 2 [1, 3, 4, 88] (L' := [(1, .pointer (some ⟨b1, 0, none⟩)), (3, .bool (a0.f1 == 0)), (4, .bool ((a0.f2.length : Int) == 0)), (88, .bool (decide ((a0.f3.length : Int) < 2)))]) (by kernel_rfl) ?_
                      refine WP.cond (b := decide ((a0.f3.length : Int) < 2)) (by kernel_rfl) (fun hc => ?_) (fun hc => ?_)
                      · replace hc := of_decide_eq_true hc
                        rw [if_pos hc] at h
                        have hc138 := hc
                        clear hc
                        refine WP.seqP [2] (L' := [(2, .bool false)]) (by kernel_rfl) ?_
                        refine WP.dropAt 0 ?_
                        refine WP.ret ?_
                        refine QP.blockR ?_
                        refine QP.thenR ?_
                        obtain rfl := Option.some.inj h
                        exact QP.returned [2] [.bool false] _ (by kernel_rfl) (by kernel_rfl) (by kernel_rfl) (fun W hI => ⟨_, _, _, rfl, ⟨rfl, rfl, rfl⟩, hI⟩)
                      · replace hc := of_decide_eq_false hc
                        rw [if_neg hc] at h
                        have hc138 := hc
                        clear hc
                        refine WP.skip ?_
                        refine QP.blockN ?_
                        refine QP.next ?_
                        refine WP.pick [1, 3, 4] ?_
                        refine WP.seq ?_
                        refine WP.seqP [1, 3, 4, 6] (L' := [(1, .pointer (some ⟨b1, 0, none⟩)), (3, .bool (a0.f1 == 0)), (4, .bool ((a0.f2.length : Int) == 0)), (6, .int .i64 0)]) (by kernel_rfl) ?_
                        rw [Option.bind_eq_some_iff] at h
                        obtain ⟨os139, h, hk140⟩ := h
                        refine WP.cutQ (fun L' G' Γ' => ∃ s139 : Unit, Sum.inr s139 = os139 ∧ L' = [(3, .bool (a0.f1 == 0)), (4, .bool ((a0.f2.length : Int) == 0))] ∧ G = G' ∧ Γ = Γ') ?_ ?_
                        · skip
                          refine WP.block ?_
                          refine WP.pick [1, 3, 4, 6] ?_
                          refine WP.loopF (fun kn142 L' G' Γ' => ∃ (y141 : Int), grapevineref14_form_l5 a0 (grapevineref14_form kf) kn142 y141 = some os139 ∧ L' = [(1, .pointer (some ⟨b1, 0, none⟩)), (3, .bool (a0.f1 == 0)), (4, .bool ((a0.f2.length : Int) == 0)), (6, .int .i64 y141)] ∧ G = G' ∧ [(b1, .cells #[.int .i64 a0.f0, .int .i64 a0.f1, .slice Aa0_f2 a0.f2.length ca0_f2, .slice Aa0_f3 a0.f3.length ca0_f3] 25 (0, 0))] :: Γ = Γ') ?_ kf ⟨0, h, rfl, rfl, rfl⟩
                          clear h
                          rintro kn143 _ _ _ ⟨y141, h, rfl, rfl, rfl⟩
                          cases kn143 with
                          | zero => exact absurd h (by simp [grapevineref14_form_l5])
                          | succ kn143 =>
                            simp only [grapevineref14_form_l5] at h
                            refine WP.seq ?_
                            refine WP.seqR ?_
                            refine WL.pure 0 2 [1, 3, 4, 6, 89, 90] (L' := [(1, .pointer (some ⟨b1, 0, none⟩)), (3, .bool (a0.f1 == 0)), (4, .bool ((a0.f2.length : Int) == 0)), (6, .int .i64 y141), (89, .int .i64 y141), (90, .pointer (some ⟨b1, 3, none⟩))]) (by kernel_rfl) (by decide) ?_
                            refine WL.tell (op := .load 23 (.tmp 90)) (ty := 23) (d := some 91) (g := none) (by kernel_rfl) (by kernel_rfl) (by kernel_rfl) (Tells.load_box (i := 0) (b := b1) (o := 3) (agg := false) (by rfl) ag23 (by kernel_rfl) (fun _ => rfl) (Nat.le_of_ble_eq_true rfl) (v := .slice Aa0_f3 a0.f3.length ca0_f3) (by kernel_rfl)) ?_
                            refine WL.restQ 3 [1, 3, 4, 6, 93] (L' := [(1, .pointer (some ⟨b1, 0, none⟩)), (3, .bool (a0.f1 == 0)), (4, .bool ((a0.f2.length : Int) == 0)), (6, .int .i64 y141), (93, .bool (decide (y141 < (a0.f3.length : Int))))]) (by kernel_rfl) ?_
                            refine WP.cond (b := decide (y141 < (a0.f3.length : Int))) (by kernel_rfl) (fun hc => ?_) (fun hc => ?_)
                            · replace hc := of_decide_eq_true hc
                              rw [if_pos hc] at h
                              have hc144 := hc
                              clear hc
                              refine WP.skip ?_
                              refine QP.next ?_
                              refine WP.pick [1, 3, 4, 6] ?_
                              refine WP.seq ?_
                              refine WP.block ?_
                              refine WP.seqR ?_
                              refine WL.pure 0 1 [1, 3, 4, 6, 96] (L' := [(1, .pointer (some ⟨b1, 0, none⟩)), (3, .bool (a0.f1 == 0)), (4, .bool ((a0.f2.length : Int) == 0)), (6, .int .i64 y141), (96, .pointer (some ⟨b1, 3, none⟩))]) (by kernel_rfl) (by decide) ?_
                              refine WL.tell (op := .load 23 (.tmp 96)) (ty := 23) (d := some 97) (g := none) (by kernel_rfl) (by kernel_rfl) (by kernel_rfl) (Tells.load_box (i := 0) (b := b1) (o := 3) (agg := false) (by rfl) ag23 (by kernel_rfl) (fun _ => rfl) (Nat.le_of_ble_eq_true rfl) (v := .slice Aa0_f3 a0.f3.length ca0_f3) (by kernel_rfl)) ?_
                              refine WL.pure 2 3 [1, 3, 4, 6, 97, 98] (L' := [(1, .pointer (some ⟨b1, 0, none⟩)), (3, .bool (a0.f1 == 0)), (4, .bool ((a0.f2.length : Int) == 0)), (6, .int .i64 y141), (97, .slice Aa0_f3 a0.f3.length ca0_f3), (98, .int .i64 y141)]) (by kernel_rfl) (by decide) ?_
                              by_cases hb145 : 0 ≤ y141 ∧ y141 < (a0.f3.length : Int)
                              case neg => rw [if_neg hb145] at h; cases h
                              rw [if_pos hb145] at h
                              refine WL.tell (op := .indexAddr 23 (.tmp 97) (.tmp 98)) (ty := 0) (d := some 99) (g := none) (by kernel_rfl) (by kernel_rfl) (by kernel_rfl) (Tells.indexAddr (A := Aa0_f3) (n := a0.f3.length) (c := ca0_f3) (k := .i64) (j := y141) (by kernel_rfl) (by kernel_rfl) (Ha0_f3.isSome hb145.1 hb145.2) hb145.1 hb145.2 sl23) ?_
                              refine WL.tellE (op := .load 25 (.tmp 99)) (ty := 25) (d := some 100) (g := none) (by kernel_rfl) (by kernel_rfl) (by kernel_rfl) (Ha0_f3.load (agg := true) hb145.1 hb145.2 z25 ag25 (fun h => by cases h) (by kernel_rfl)) ?_
                              rintro _ hrel
                              obtain ⟨_, _, rfl, rfl, ⟨_, _, rfl, rfl, ⟨_, _, rfl, ⟨Ae146, ce146, rfl, He146⟩, ⟨Ae147, ce147, rfl, He147⟩⟩⟩⟩ := k25_out hrel
                              replace He146 : Rd kStr G Ae146 ce146 ((a0.f3.getD y141.toNat z25).f2) := He146
                              replace He147 : Rd k25 G Ae147 ce147 ((a0.f3.getD y141.toNat z25).f3) := He147
                              rw [Option.bind_eq_some_iff] at h
                              obtain ⟨t148, ht149, h⟩ := h
                              refine WL.op (op := .call { callee := (.value (.func 53)), args := #[(.tmp 100)], argTypes := #[25] }) (ty := 4) (d := some 101) (g := none) (by kernel_rfl) (by kernel_rfl) (by kernel_rfl) (Does.call (f := 53) (args := [.agg #[.int .i64 ((a0.f3.getD y141.toNat z25).f0), .int .i64 ((a0.f3.getD y141.toNat z25).f1), .slice Ae146 ((a0.f3.getD y141.toNat z25).f2).length ce146, .slice Ae147 ((a0.f3.getD y141.toNat z25).f3).length ce147]]) (by kernel_rfl) (fun W hI => (ih HT (a0.f3.getD y141.toNat z25) Ae146 ce146 He146 Ae147 ce147 He147 t148 ht149 hI))) ?_
                              rintro _ _ _ ⟨rfl, rfl, rfl⟩
                              refine WL.restQ 6 [1, 3, 4, 6, 102] (L' := [(1, .pointer (some ⟨b1, 0, none⟩)), (3, .bool (a0.f1 == 0)), (4, .bool ((a0.f2.length : Int) == 0)), (6, .int .i64 y141), (102, .bool (!t148))]) (by kernel_rfl) ?_
                              refine WP.cond (b := (!t148)) (by kernel_rfl) (fun hc => ?_) (fun hc => ?_)
                              · replace hc := hc
                                rw [if_pos hc] at h
                                have hc152 := hc
                                clear hc
                                refine WP.seqP [2] (L' := [(2, .bool false)]) (by kernel_rfl) ?_
                                refine WP.dropAt 0 ?_
                                refine WP.ret ?_
                                refine QP.blockR ?_
                                refine QP.thenR ?_
                                refine QP.thenR ?_
                                refine QP.blockR ?_
                                refine QP.thenR ?_
                                refine QP.thenR ?_
                                obtain rfl := Option.some.inj h
                                obtain rfl := Option.some.inj (show some _ = some _ from hk140)
                                exact QP.returned [2] [.bool false] _ (by kernel_rfl) (by kernel_rfl) (by kernel_rfl) (fun W hI => ⟨_, _, _, rfl, ⟨rfl, rfl, rfl⟩, hI⟩)
                              · replace hc := (Bool.eq_false_iff.1 hc)
                                rw [if_neg hc] at h
                                have hc152 := hc
                                clear hc
                                refine WP.skip ?_
                                refine QP.blockN ?_
                                refine QP.next ?_
                                refine WP.pick [1, 3, 4, 6] ?_
                                refine WP.regionP [1, 3, 4, 6] (L' := [(1, .pointer (some ⟨b1, 0, none⟩)), (3, .bool (a0.f1 == 0)), (4, .bool ((a0.f2.length : Int) == 0)), (6, .int .i64 (IntKind.i64.wrap (y141 + 1)))]) (by kernel_rfl) ?_
                                refine QP.pick [1, 3, 4, 6] ?_
                                exact QP.meet ⟨kn143, Nat.lt_succ_self _, (IntKind.i64.wrap (y141 + 1)), h, rfl, rfl, rfl⟩
                            · replace hc := of_decide_eq_false hc
                              rw [if_neg hc] at h
                              have hc144 := hc
                              clear hc
                              refine WP.exit ?_
                              refine QP.thenE ?_
                              refine QP.thenE ?_
                              refine QP.blockE ?_
                              refine QP.dropAt 0 ?_
                              refine QP.pick [3, 4] ?_
                              exact QP.meet ⟨_, Option.some.inj h, rfl, rfl, rfl⟩
                        · rintro _ _ _ ⟨s139, rfl, rfl, rfl, rfl⟩
                          clear h
                          replace h := hk140
                          dsimp only at h
                          refine QP.next ?_
                          refine WP.pick [3, 4] ?_
                          rw [Option.bind_eq_some_iff] at h
                          obtain ⟨os153, h, hk154⟩ := h
                          refine WP.cut (fun L' G' Γ' => ∃ s153 : Bool, s153 = os153 ∧ L' = [(2, .bool s153)] ∧ G = G' ∧ Γ = Γ') ?_ ?_
                          · clear hk154
                            refine WP.region ?_
                            refine WL.pure 0 2 [4, 104] (L' := [(4, .bool ((a0.f2.length : Int) == 0)), (104, .bool (a0.f1 == 0))]) (by kernel_rfl) (by decide) ?_
                            refine WL.split 104 (b := (a0.f1 == 0)) (by kernel_rfl) (fun hc => ?_) (fun hc => ?_)
                            · replace hc := eq_of_beq hc
                              rw [if_pos hc] at h
                              have hc155 := hc
                              clear hc
                              refine WL.rest 2 [2] (L' := [(2, .bool ((a0.f2.length : Int) == 0))]) (by kernel_rfl) ?_
                              refine QP.pick [2] ?_
                              exact QP.meet ⟨_, Option.some.inj h, rfl, rfl, rfl⟩
                            · replace hc := ne_of_beq_false hc
                              rw [if_neg hc] at h
                              have hc155 := hc
                              clear hc
                              refine WL.rest 2 [2] (L' := [(2, .bool false)]) (by kernel_rfl) ?_
                              refine QP.pick [2] ?_
                              exact QP.meet ⟨_, Option.some.inj h, rfl, rfl, rfl⟩
                          · rintro _ _ _ ⟨s153, rfl, rfl, rfl, rfl⟩
                            clear h
                            replace h := hk154
                            refine WP.ret ?_
                            obtain rfl := Option.some.inj h
                            exact QP.returned [2] [.bool s153] _ (by kernel_rfl) (by kernel_rfl) (by kernel_rfl) (fun W hI => ⟨_, _, _, rfl, ⟨rfl, rfl, rfl⟩, hI⟩)
                    · replace hc := ne_of_beq_false hc
                      rw [if_neg hc] at h
                      have hc137 := hc
                      clear hc
                      refine WP.seqP [2] (L' := [(2, .bool false)]) (by kernel_rfl) ?_
                      refine WP.dropAt 0 ?_
                      refine WP.ret ?_
                      refine QP.blockR ?_
                      refine QP.thenR ?_
                      obtain rfl := Option.some.inj h
                      exact QP.returned [2] [.bool false] _ (by kernel_rfl) (by kernel_rfl) (by kernel_rfl) (fun W hI => ⟨_, _, _, rfl, ⟨rfl, rfl, rfl⟩, hI⟩)
    · replace hc := ne_of_beq_false hc
      rw [if_neg hc] at h
      have hc2 := hc
      clear hc
      refine WP.regionP [1, 3, 4, 5, 19, 20] (L' := [(1, .pointer (some ⟨b1, 0, none⟩)), (3, .bool (a0.f1 == 0)), (4, .bool ((a0.f2.length : Int) == 0)), (5, .bool ((a0.f3.length : Int) == 0)), (19, .int .i64 a0.f0), (20, .bool (a0.f0 == 2))]) (by kernel_rfl) ?_
      refine QP.next ?_
      refine WP.pick [1, 3, 4, 5, 19, 20] ?_
      refine WP.cond (b := (a0.f0 == 2)) (by kernel_rfl) (fun hc => ?_) (fun hc => ?_)
      · replace hc := eq_of_beq hc
        rw [if_pos hc] at h
        have hc156 := hc
        clear hc
        rw [Option.bind_eq_some_iff] at h
        obtain ⟨os157, h, hk158⟩ := h
        refine WP.cut (fun L' G' Γ' => ∃ s157 : Bool, s157 = os157 ∧ L' = [(2, .bool s157)] ∧ G = G' ∧ Γ = Γ') ?_ ?_
        · clear hk158
          refine WP.region ?_
          refine WL.pure 0 2 [1, 5, 24] (L' := [(1, .pointer (some ⟨b1, 0, none⟩)), (5, .bool ((a0.f3.length : Int) == 0)), (24, .bool (a0.f1 == 0))]) (by kernel_rfl) (by decide) ?_
          refine WL.split 24 (b := (a0.f1 == 0)) (by kernel_rfl) (fun hc => ?_) (fun hc => ?_)
          · replace hc := eq_of_beq hc
            rw [if_pos hc] at h
            have hc159 := hc
            clear hc
            refine WL.pure 2 5 [1, 27] (L' := [(1, .pointer (some ⟨b1, 0, none⟩)), (27, .bool ((a0.f3.length : Int) == 0))]) (by kernel_rfl) (by decide) ?_
            refine WL.split 27 (b := ((a0.f3.length : Int) == 0)) (by kernel_rfl) (fun hc => ?_) (fun hc => ?_)
            · replace hc := eq_of_beq hc
              rw [if_pos hc] at h
              have hc160 := hc
              clear hc
              refine WL.pure 5 6 [27, 28] (L' := [(27, .bool true), (28, .pointer (some ⟨b1, 2, none⟩))]) (by kernel_rfl) (by decide) ?_
              refine WL.tell (op := .load 22 (.tmp 28)) (ty := 22) (d := some 29) (g := some (4, true)) (by kernel_rfl) (by kernel_rfl) (by kernel_rfl) (Tells.load_box (i := 0) (b := b1) (o := 2) (agg := false) (by rfl) ag22 (by kernel_rfl) (fun _ => rfl) (Nat.le_of_ble_eq_true rfl) (v := .slice Aa0_f2 a0.f2.length ca0_f2) (by kernel_rfl)) ?_
              rw [Option.bind_eq_some_iff] at h
              obtain ⟨t161, ht162, h⟩ := h
              refine WL.op (op := .call { callee := (.value (.func 78)), args := #[(.tmp 29), (.const (.int .i64 1)), (.const (.int .i64 1))], argTypes := #[22, 3, 3] }) (ty := 4) (d := some 30) (g := some (4, true)) (by kernel_rfl) (by kernel_rfl) (by kernel_rfl) (Does.call (f := 78) (args := [.slice Aa0_f2 a0.f2.length ca0_f2, .int .i64 1, .int .i64 1]) (by kernel_rfl) (fun W hI => (grapevineref14_words_calls HT kf a0.f2 1 1 Aa0_f2 ca0_f2 Ha0_f2 t161 ht162 hI))) ?_
              rintro _ _ _ ⟨rfl, rfl, rfl⟩
              refine WL.rest 8 [2] (L' := [(2, .bool t161)]) (by kernel_rfl) ?_
              refine QP.dropAt 0 ?_
              refine QP.pick [2] ?_
              exact QP.meet ⟨_, Option.some.inj h, rfl, rfl, rfl⟩
            · replace hc := ne_of_beq_false hc
              rw [if_neg hc] at h
              have hc160 := hc
              clear hc
              refine WL.rest 5 [2] (L' := [(2, .bool false)]) (by kernel_rfl) ?_
              refine QP.dropAt 0 ?_
              refine QP.pick [2] ?_
              exact QP.meet ⟨_, Option.some.inj h, rfl, rfl, rfl⟩
          · replace hc := ne_of_beq_false hc
            rw [if_neg hc] at h
            have hc159 := hc
            clear hc
            refine WL.rest 2 [2] (L' := [(2, .bool false)]) (by kernel_rfl) ?_
            refine QP.dropAt 0 ?_
            refine QP.pick [2] ?_
            exact QP.meet ⟨_, Option.some.inj h, rfl, rfl, rfl⟩
        · rintro _ _ _ ⟨s157, rfl, rfl, rfl, rfl⟩
          clear h
          replace h := hk158
          refine WP.ret ?_
          refine QP.blockR ?_
          refine QP.thenR ?_
          obtain rfl := Option.some.inj h
          exact QP.returned [2] [.bool s157] _ (by kernel_rfl) (by kernel_rfl) (by kernel_rfl) (fun W hI => ⟨_, _, _, rfl, ⟨rfl, rfl, rfl⟩, hI⟩)
      · replace hc := ne_of_beq_false hc
        rw [if_neg hc] at h
        have hc156 := hc
        clear hc
        refine WP.seqP [1, 3, 4, 5, 19, 32] (L' := [(1, .pointer (some ⟨b1, 0, none⟩)), (3, .bool (a0.f1 == 0)), (4, .bool ((a0.f2.length : Int) == 0)), (5, .bool ((a0.f3.length : Int) == 0)), (19, .int .i64 a0.f0), (32, .bool (a0.f0 == 3))]) (by kernel_rfl) ?_
        refine WP.cond (b := (a0.f0 == 3)) (by kernel_rfl) (fun hc => ?_) (fun hc => ?_)
        · replace hc := eq_of_beq hc
          rw [if_pos hc] at h
          have hc165 := hc
          clear hc
          rw [Option.bind_eq_some_iff] at h
          obtain ⟨os166, h, hk167⟩ := h
          refine WP.cut (fun L' G' Γ' => ∃ s166 : Bool, s166 = os166 ∧ L' = [(2, .bool s166)] ∧ G = G' ∧ Γ = Γ') ?_ ?_
          · clear hk167
            refine WP.region ?_
            refine WL.pure 0 2 [1, 5, 35] (L' := [(1, .pointer (some ⟨b1, 0, none⟩)), (5, .bool ((a0.f3.length : Int) == 0)), (35, .bool (a0.f1 == 0))]) (by kernel_rfl) (by decide) ?_
            refine WL.split 35 (b := (a0.f1 == 0)) (by kernel_rfl) (fun hc => ?_) (fun hc => ?_)
            · replace hc := eq_of_beq hc
              rw [if_pos hc] at h
              have hc168 := hc
              clear hc
              refine WL.pure 2 5 [1, 38] (L' := [(1, .pointer (some ⟨b1, 0, none⟩)), (38, .bool ((a0.f3.length : Int) == 0))]) (by kernel_rfl) (by decide) ?_
              refine WL.split 38 (b := ((a0.f3.length : Int) == 0)) (by kernel_rfl) (fun hc => ?_) (fun hc => ?_)
              · replace hc := eq_of_beq hc
                rw [if_pos hc] at h
                have hc169 := hc
                clear hc
                refine WL.pure 5 6 [38, 39] (L' := [(38, .bool true), (39, .pointer (some ⟨b1, 2, none⟩))]) (by kernel_rfl) (by decide) ?_
                refine WL.tell (op := .load 22 (.tmp 39)) (ty := 22) (d := some 40) (g := some (4, true)) (by kernel_rfl) (by kernel_rfl) (by kernel_rfl) (Tells.load_box (i := 0) (b := b1) (o := 2) (agg := false) (by rfl) ag22 (by kernel_rfl) (fun _ => rfl) (Nat.le_of_ble_eq_true rfl) (v := .slice Aa0_f2 a0.f2.length ca0_f2) (by kernel_rfl)) ?_
                rw [Option.bind_eq_some_iff] at h
                obtain ⟨t170, ht171, h⟩ := h
                refine WL.op (op := .call { callee := (.value (.func 78)), args := #[(.tmp 40), (.const (.int .i64 1)), (.const (.int .i64 16))], argTypes := #[22, 3, 3] }) (ty := 4) (d := some 41) (g := some (4, true)) (by kernel_rfl) (by kernel_rfl) (by kernel_rfl) (Does.call (f := 78) (args := [.slice Aa0_f2 a0.f2.length ca0_f2, .int .i64 1, .int .i64 16]) (by kernel_rfl) (fun W hI => (grapevineref14_words_calls HT kf a0.f2 1 16 Aa0_f2 ca0_f2 Ha0_f2 t170 ht171 hI))) ?_
                rintro _ _ _ ⟨rfl, rfl, rfl⟩
                refine WL.rest 8 [2] (L' := [(2, .bool t170)]) (by kernel_rfl) ?_
                refine QP.dropAt 0 ?_
                refine QP.pick [2] ?_
                exact QP.meet ⟨_, Option.some.inj h, rfl, rfl, rfl⟩
              · replace hc := ne_of_beq_false hc
                rw [if_neg hc] at h
                have hc169 := hc
                clear hc
                refine WL.rest 5 [2] (L' := [(2, .bool false)]) (by kernel_rfl) ?_
                refine QP.dropAt 0 ?_
                refine QP.pick [2] ?_
                exact QP.meet ⟨_, Option.some.inj h, rfl, rfl, rfl⟩
            · replace hc := ne_of_beq_false hc
              rw [if_neg hc] at h
              have hc168 := hc
              clear hc
              refine WL.rest 2 [2] (L' := [(2, .bool false)]) (by kernel_rfl) ?_
              refine QP.dropAt 0 ?_
              refine QP.pick [2] ?_
              exact QP.meet ⟨_, Option.some.inj h, rfl, rfl, rfl⟩
          · rintro _ _ _ ⟨s166, rfl, rfl, rfl, rfl⟩
            clear h
            replace h := hk167
            refine WP.ret ?_
            refine QP.blockR ?_
            refine QP.thenR ?_
            obtain rfl := Option.some.inj h
            exact QP.returned [2] [.bool s166] _ (by kernel_rfl) (by kernel_rfl) (by kernel_rfl) (fun W hI => ⟨_, _, _, rfl, ⟨rfl, rfl, rfl⟩, hI⟩)
        · replace hc := ne_of_beq_false hc
          rw [if_neg hc] at h
          have hc165 := hc
          clear hc
          refine WP.seqP [1, 3, 4, 5, 19, 43] (L' := [(1, .pointer (some ⟨b1, 0, none⟩)), (3, .bool (a0.f1 == 0)), (4, .bool ((a0.f2.length : Int) == 0)), (5, .bool ((a0.f3.length : Int) == 0)), (19, .int .i64 a0.f0), (43, .bool (a0.f0 == 4))]) (by kernel_rfl) ?_
          refine WP.cond (b := (a0.f0 == 4)) (by kernel_rfl) (fun hc => ?_) (fun hc => ?_)
          · replace hc := eq_of_beq hc
            rw [if_pos hc] at h
            have hc174 := hc
            clear hc
            rw [Option.bind_eq_some_iff] at h
            obtain ⟨os175, h, hk176⟩ := h
            refine WP.cut (fun L' G' Γ' => ∃ s175 : Bool, s175 = os175 ∧ L' = [(2, .bool s175)] ∧ G = G' ∧ Γ = Γ') ?_ ?_
            · clear hk176
              refine WP.region ?_
              refine WL.pure 0 2 [1, 5, 46] (L' := [(1, .pointer (some ⟨b1, 0, none⟩)), (5, .bool ((a0.f3.length : Int) == 0)), (46, .bool ((a0.f2.length : Int) == 0))]) (by kernel_rfl) (by decide) ?_
              refine WL.split 46 (b := ((a0.f2.length : Int) == 0)) (by kernel_rfl) (fun hc => ?_) (fun hc => ?_)
              · replace hc := eq_of_beq hc
                rw [if_pos hc] at h
                have hc177 := hc
                clear hc
                refine WL.pure 2 5 [1, 49] (L' := [(1, .pointer (some ⟨b1, 0, none⟩)), (49, .bool ((a0.f3.length : Int) == 0))]) (by kernel_rfl) (by decide) ?_
                refine WL.split 49 (b := ((a0.f3.length : Int) == 0)) (by kernel_rfl) (fun hc => ?_) (fun hc => ?_)
                · replace hc := eq_of_beq hc
                  rw [if_pos hc] at h
                  have hc178 := hc
                  clear hc
                  refine WL.pure 5 6 [1, 49, 50] (L' := [(1, .pointer (some ⟨b1, 0, none⟩)), (49, .bool true), (50, .pointer (some ⟨b1, 1, none⟩))]) (by kernel_rfl) (by decide) ?_
                  refine WL.tell (op := .load 3 (.tmp 50)) (ty := 3) (d := some 51) (g := some (4, true)) (by kernel_rfl) (by kernel_rfl) (by kernel_rfl) (Tells.load_box (i := 0) (b := b1) (o := 1) (agg := false) (by rfl) ag3 (by kernel_rfl) (fun _ => rfl) (Nat.le_of_ble_eq_true rfl) (v := .int .i64 a0.f1) (by kernel_rfl)) ?_
                  refine WL.pure 7 10 [1, 54] (L' := [(1, .pointer (some ⟨b1, 0, none⟩)), (54, .bool (decide (a0.f1 ≥ 0)))]) (by kernel_rfl) (by decide) ?_
                  refine WL.split 54 (b := decide (a0.f1 ≥ 0)) (by kernel_rfl) (fun hc => ?_) (fun hc => ?_)
                  · replace hc := of_decide_eq_true hc
                    rw [if_pos hc] at h
                    have hc179 := hc
                    clear hc
                    refine WL.pure 10 11 [54, 55] (L' := [(54, .bool true), (55, .pointer (some ⟨b1, 1, none⟩))]) (by kernel_rfl) (by decide) ?_
                    refine WL.tell (op := .load 3 (.tmp 55)) (ty := 3) (d := some 56) (g := some (9, true)) (by kernel_rfl) (by kernel_rfl) (by kernel_rfl) (Tells.load_box (i := 0) (b := b1) (o := 1) (agg := false) (by rfl) ag3 (by kernel_rfl) (fun _ => rfl) (Nat.le_of_ble_eq_true rfl) (v := .int .i64 a0.f1) (by kernel_rfl)) ?_
                    refine WL.rest 12 [2] (L' := [(2, .bool (decide (a0.f1 < 8)))]) (by kernel_rfl) ?_
                    refine QP.dropAt 0 ?_
                    refine QP.pick [2] ?_
                    exact QP.meet ⟨_, Option.some.inj h, rfl, rfl, rfl⟩
                  · replace hc := of_decide_eq_false hc
                    rw [if_neg hc] at h
                    have hc179 := hc
                    clear hc
                    refine WL.rest 10 [2] (L' := [(2, .bool false)]) (by kernel_rfl) ?_
                    refine QP.dropAt 0 ?_
                    refine QP.pick [2] ?_
                    exact QP.meet ⟨_, Option.some.inj h, rfl, rfl, rfl⟩
                · replace hc := ne_of_beq_false hc
                  rw [if_neg hc] at h
                  have hc178 := hc
                  clear hc
                  refine WL.rest 5 [2] (L' := [(2, .bool false)]) (by kernel_rfl) ?_
                  refine QP.dropAt 0 ?_
                  refine QP.pick [2] ?_
                  exact QP.meet ⟨_, Option.some.inj h, rfl, rfl, rfl⟩
              · replace hc := ne_of_beq_false hc
                rw [if_neg hc] at h
                have hc177 := hc
                clear hc
                refine WL.rest 2 [2] (L' := [(2, .bool false)]) (by kernel_rfl) ?_
                refine QP.dropAt 0 ?_
                refine QP.pick [2] ?_
                exact QP.meet ⟨_, Option.some.inj h, rfl, rfl, rfl⟩
            · rintro _ _ _ ⟨s175, rfl, rfl, rfl, rfl⟩
              clear h
              replace h := hk176
              refine WP.ret ?_
              refine QP.blockR ?_
              refine QP.thenR ?_
              obtain rfl := Option.some.inj h
              exact QP.returned [2] [.bool s175] _ (by kernel_rfl) (by kernel_rfl) (by kernel_rfl) (fun W hI => ⟨_, _, _, rfl, ⟨rfl, rfl, rfl⟩, hI⟩)
          · replace hc := ne_of_beq_false hc
            rw [if_neg hc] at h
            have hc174 := hc
            clear hc
            refine WP.seq ?_
            refine WP.seqP [1, 3, 4, 5, 19, 59] (L' := [(1, .pointer (some ⟨b1, 0, none⟩)), (3, .bool (a0.f1 == 0)), (4, .bool ((a0.f2.length : Int) == 0)), (5, .bool ((a0.f3.length : Int) == 0)), (19, .int .i64 a0.f0), (59, .bool (a0.f0 == 5))]) (by kernel_rfl) ?_
            refine WP.cond (b := (a0.f0 == 5)) (by kernel_rfl) (fun hc => ?_) (fun hc => ?_)
            · replace hc := eq_of_beq hc
              rw [if_pos hc] at h
              have hc180 := hc
              clear hc
              refine WP.skip ?_
              refine QP.next ?_
              refine WP.pick [1, 3, 4, 5, 19, 59] ?_
              refine WP.cond (b := (a0.f0 == 5)) (by kernel_rfl) (fun hc => ?_) (fun hc => ?_)
              · replace hc := eq_of_beq hc
                rw [if_pos hc] at h
                have hc181 := hc
                clear hc
                rw [Option.bind_eq_some_iff] at h
                obtain ⟨os182, h, hk183⟩ := h
                refine WP.cut (fun L' G' Γ' => ∃ s182 : Bool, s182 = os182 ∧ L' = [(2, .bool s182)] ∧ G = G' ∧ Γ = Γ') ?_ ?_
                · clear hk183
                  refine WP.region ?_
                  refine WL.pure 0 2 [1, 5, 63] (L' := [(1, .pointer (some ⟨b1, 0, none⟩)), (5, .bool ((a0.f3.length : Int) == 0)), (63, .bool ((a0.f2.length : Int) == 0))]) (by kernel_rfl) (by decide) ?_
                  refine WL.split 63 (b := ((a0.f2.length : Int) == 0)) (by kernel_rfl) (fun hc => ?_) (fun hc => ?_)
                  · replace hc := eq_of_beq hc
                    rw [if_pos hc] at h
                    have hc184 := hc
                    clear hc
                    refine WL.pure 2 5 [1, 66] (L' := [(1, .pointer (some ⟨b1, 0, none⟩)), (66, .bool ((a0.f3.length : Int) == 0))]) (by kernel_rfl) (by decide) ?_
                    refine WL.split 66 (b := ((a0.f3.length : Int) == 0)) (by kernel_rfl) (fun hc => ?_) (fun hc => ?_)
                    · replace hc := eq_of_beq hc
                      rw [if_pos hc] at h
                      have hc185 := hc
                      clear hc
                      refine WL.pure 5 6 [1, 66, 67] (L' := [(1, .pointer (some ⟨b1, 0, none⟩)), (66, .bool true), (67, .pointer (some ⟨b1, 1, none⟩))]) (by kernel_rfl) (by decide) ?_
                      refine WL.tell (op := .load 3 (.tmp 67)) (ty := 3) (d := some 68) (g := some (4, true)) (by kernel_rfl) (by kernel_rfl) (by kernel_rfl) (Tells.load_box (i := 0) (b := b1) (o := 1) (agg := false) (by rfl) ag3 (by kernel_rfl) (fun _ => rfl) (Nat.le_of_ble_eq_true rfl) (v := .int .i64 a0.f1) (by kernel_rfl)) ?_
                      refine WL.pure 7 10 [1, 71] (L' := [(1, .pointer (some ⟨b1, 0, none⟩)), (71, .bool (decide (a0.f1 ≥ 0)))]) (by kernel_rfl) (by decide) ?_
                      refine WL.split 71 (b := decide (a0.f1 ≥ 0)) (by kernel_rfl) (fun hc => ?_) (fun hc => ?_)
                      · replace hc := of_decide_eq_true hc
                        rw [if_pos hc] at h
                        have hc186 := hc
                        clear hc
                        refine WL.pure 10 11 [71, 72] (L' := [(71, .bool true), (72, .pointer (some ⟨b1, 1, none⟩))]) (by kernel_rfl) (by decide) ?_
                        refine WL.tell (op := .load 3 (.tmp 72)) (ty := 3) (d := some 73) (g := some (9, true)) (by kernel_rfl) (by kernel_rfl) (by kernel_rfl) (Tells.load_box (i := 0) (b := b1) (o := 1) (agg := false) (by rfl) ag3 (by kernel_rfl) (fun _ => rfl) (Nat.le_of_ble_eq_true rfl) (v := .int .i64 a0.f1) (by kernel_rfl)) ?_
                        refine WL.rest 12 [2] (L' := [(2, .bool (decide (a0.f1 ≤ 1099511627776)))]) (by kernel_rfl) ?_
                        refine QP.dropAt 0 ?_
                        refine QP.pick [2] ?_
                        exact QP.meet ⟨_, Option.some.inj h, rfl, rfl, rfl⟩
                      · replace hc := of_decide_eq_false hc
                        rw [if_neg hc] at h
                        have hc186 := hc
                        clear hc
                        refine WL.rest 10 [2] (L' := [(2, .bool false)]) (by kernel_rfl) ?_
                        refine QP.dropAt 0 ?_
                        refine QP.pick [2] ?_
                        exact QP.meet ⟨_, Option.some.inj h, rfl, rfl, rfl⟩
                    · replace hc := ne_of_beq_false hc
                      rw [if_neg hc] at h
                      have hc185 := hc
                      clear hc
                      refine WL.rest 5 [2] (L' := [(2, .bool false)]) (by kernel_rfl) ?_
                      refine QP.dropAt 0 ?_
                      refine QP.pick [2] ?_
                      exact QP.meet ⟨_, Option.some.inj h, rfl, rfl, rfl⟩
                  · replace hc := ne_of_beq_false hc
                    rw [if_neg hc] at h
                    have hc184 := hc
                    clear hc
                    refine WL.rest 2 [2] (L' := [(2, .bool false)]) (by kernel_rfl) ?_
                    refine QP.dropAt 0 ?_
                    refine QP.pick [2] ?_
                    exact QP.meet ⟨_, Option.some.inj h, rfl, rfl, rfl⟩
                · rintro _ _ _ ⟨s182, rfl, rfl, rfl, rfl⟩
                  clear h
                  replace h := hk183
                  refine WP.ret ?_
                  refine QP.blockR ?_
                  refine QP.thenR ?_
                  obtain rfl := Option.some.inj h
                  exact QP.returned [2] [.bool s182] _ (by kernel_rfl) (by kernel_rfl) (by kernel_rfl) (fun W hI => ⟨_, _, _, rfl, ⟨rfl, rfl, rfl⟩, hI⟩)
              · replace hc := ne_of_beq_false hc
                rw [if_neg hc] at h
                have hc181 := hc
                clear hc
                refine WP.seqP [1, 3, 4, 19, 76] (L' := [(1, .pointer (some ⟨b1, 0, none⟩)), (3, .bool (a0.f1 == 0)), (4, .bool ((a0.f2.length : Int) == 0)), (19, .int .i64 a0.f0), (76, .bool (a0.f0 == 9))]) (by kernel_rfl) ?_
                refine WP.cond (b := (a0.f0 == 9)) (by kernel_rfl) (fun hc => ?_) (fun hc => ?_)
                · replace hc := eq_of_beq hc
                  rw [if_pos hc] at h
                  have hc187 := hc
                  clear hc
                  refine WP.seqR ?_
                  refine WL.pure 0 1 [1, 3, 4, 78] (L' := [(1, .pointer (some ⟨b1, 0, none⟩)), (3, .bool (a0.f1 == 0)), (4, .bool ((a0.f2.length : Int) == 0)), (78, .pointer (some ⟨b1, 3, none⟩))]) (by kernel_rfl) (by decide) ?_
                  refine WL.tell (op := .load 23 (.tmp 78)) (ty := 23) (d := some 79) (g := none) (by kernel_rfl) (by kernel_rfl) (by kernel_rfl) (Tells.load_box (i := 0) (b := b1) (o := 3) (agg := false) (by rfl) ag23 (by kernel_rfl) (fun _ => rfl) (Nat.le_of_ble_eq_true rfl) (v := .slice Aa0_f3 a0.f3.length ca0_f3) (by kernel_rfl)) ?_
                  refine WL.restQ 2 [1, 3, 4, 81] (L' := [(1, .pointer (some ⟨b1, 0, none⟩)), (3, .bool (a0.f1 == 0)), (4, .bool ((a0.f2.length : Int) == 0)), (81, .bool ((a0.f3.length : Int) != 1))]) (by kernel_rfl) ?_
                  refine WP.cond (b := ((a0.f3.length : Int) != 1)) (by kernel_rfl) (fun hc => ?_) (fun hc => ?_)
                  · replace hc := (bne_iff_ne.1 hc)
                    rw [if_pos hc] at h
                    have hc188 := hc
                    clear hc
                    refine WP.seqP [2] (L' := [(2, .bool false)]) (by kernel_rfl) ?_
                    refine WP.dropAt 0 ?_
                    refine WP.ret ?_
                    refine QP.blockR ?_
                    refine QP.thenR ?_
                    obtain rfl := Option.some.inj h
                    exact QP.returned [2] [.bool false] _ (by kernel_rfl) (by kernel_rfl) (by kernel_rfl) (fun W hI => ⟨_, _, _, rfl, ⟨rfl, rfl, rfl⟩, hI⟩)
                  · replace hc := (not_not_intro (bne_eq_false_iff_eq.1 hc))
                    rw [if_neg hc] at h
                    have hc188 := hc
                    clear hc
                    refine WP.skip ?_
                    refine QP.blockN ?_
                    refine QP.next ?_
                    refine WP.pick [1, 3, 4] ?_
                    refine WP.seq ?_
                    refine WP.seqP [1, 3, 4, 6] (L' := [(1, .pointer (some ⟨b1, 0, none⟩)), (3, .bool (a0.f1 == 0)), (4, .bool ((a0.f2.length : Int) == 0)), (6, .int .i64 0)]) (by kernel_rfl) ?_
                    rw [Option.bind_eq_some_iff] at h
                    obtain ⟨os189, h, hk190⟩ := h
                    refine WP.cutQ (fun L' G' Γ' => ∃ s189 : Unit, Sum.inr s189 = os189 ∧ L' = [(3, .bool (a0.f1 == 0)), (4, .bool ((a0.f2.length : Int) == 0))] ∧ G = G' ∧ Γ = Γ') ?_ ?_
                    · skip
                      refine WP.block ?_
                      refine WP.pick [1, 3, 4, 6] ?_
                      refine WP.loopF (fun kn192 L' G' Γ' => ∃ (y191 : Int), grapevineref14_form_l6 a0 (grapevineref14_form kf) kn192 y191 = some os189 ∧ L' = [(1, .pointer (some ⟨b1, 0, none⟩)), (3, .bool (a0.f1 == 0)), (4, .bool ((a0.f2.length : Int) == 0)), (6, .int .i64 y191)] ∧ G = G' ∧ [(b1, .cells #[.int .i64 a0.f0, .int .i64 a0.f1, .slice Aa0_f2 a0.f2.length ca0_f2, .slice Aa0_f3 a0.f3.length ca0_f3] 25 (0, 0))] :: Γ = Γ') ?_ kf ⟨0, h, rfl, rfl, rfl⟩
                      clear h
                      rintro kn193 _ _ _ ⟨y191, h, rfl, rfl, rfl⟩
                      cases kn193 with
                      | zero => exact absurd h (by simp [grapevineref14_form_l6])
                      | succ kn193 =>
                        simp only [grapevineref14_form_l6] at h
                        refine WP.seq ?_
                        refine WP.seqR ?_
                        refine WL.pure 0 2 [1, 3, 4, 6, 89, 90] (L' := [(1, .pointer (some ⟨b1, 0, none⟩)), (3, .bool (a0.f1 == 0)), (4, .bool ((a0.f2.length : Int) == 0)), (6, .int .i64 y191), (89, .int .i64 y191), (90, .pointer (some ⟨b1, 3, none⟩))]) (by kernel_rfl) (by decide) ?_
                        refine WL.tell (op := .load 23 (.tmp 90)) (ty := 23) (d := some 91) (g := none) (by kernel_rfl) (by kernel_rfl) (by kernel_rfl) (Tells.load_box (i := 0) (b := b1) (o := 3) (agg := false) (by rfl) ag23 (by kernel_rfl) (fun _ => rfl) (Nat.le_of_ble_eq_true rfl) (v := .slice Aa0_f3 a0.f3.length ca0_f3) (by kernel_rfl)) ?_
                        refine WL.restQ 3 [1, 3, 4, 6, 93] (L' := [(1, .pointer (some ⟨b1, 0, none⟩)), (3, .bool (a0.f1 == 0)), (4, .bool ((a0.f2.length : Int) == 0)), (6, .int .i64 y191), (93, .bool (decide (y191 < (a0.f3.length : Int))))]) (by kernel_rfl) ?_
                        refine WP.cond (b := decide (y191 < (a0.f3.length : Int))) (by kernel_rfl) (fun hc => ?_) (fun hc => ?_)
                        · replace hc := of_decide_eq_true hc
                          rw [if_pos hc] at h
                          have hc194 := hc
                          clear hc
                          refine WP.skip ?_
                          refine QP.next ?_
                          refine WP.pick [1, 3, 4, 6] ?_
                          refine WP.seq ?_
                          refine WP.block ?_
                          refine WP.seqR ?_
                          refine WL.pure 0 1 [1, 3, 4, 6, 96] (L' := [(1, .pointer (some ⟨b1, 0, none⟩)), (3, .bool (a0.f1 == 0)), (4, .bool ((a0.f2.length : Int) == 0)), (6, .int .i64 y191), (96, .pointer (some ⟨b1, 3, none⟩))]) (by kernel_rfl) (by decide) ?_
                          refine WL.tell (op := .load 23 (.tmp 96)) (ty := 23) (d := some 97) (g := none) (by kernel_rfl) (by kernel_rfl) (by kernel_rfl) (Tells.load_box (i := 0) (b := b1) (o := 3) (agg := false) (by rfl) ag23 (by kernel_rfl) (fun _ => rfl) (Nat.le_of_ble_eq_true rfl) (v := .slice Aa0_f3 a0.f3.length ca0_f3) (by kernel_rfl)) ?_
                          refine WL.pure 2 3 [1, 3, 4, 6, 97, 98] (L' := [(1, .pointer (some ⟨b1, 0, none⟩)), (3, .bool (a0.f1 == 0)), (4, .bool ((a0.f2.length : Int) == 0)), (6, .int .i64 y191), (97, .slice Aa0_f3 a0.f3.length ca0_f3), (98, .int .i64 y191)]) (by kernel_rfl) (by decide) ?_
                          by_cases hb195 : 0 ≤ y191 ∧ y191 < (a0.f3.length : Int)
                          case neg => rw [if_neg hb195] at h; cases h
                          rw [if_pos hb195] at h
                          refine WL.tell (op := .indexAddr 23 (.tmp 97) (.tmp 98)) (ty := 0) (d := some 99) (g := none) (by kernel_rfl) (by kernel_rfl) (by kernel_rfl) (Tells.indexAddr (A := Aa0_f3) (n := a0.f3.length) (c := ca0_f3) (k := .i64) (j := y191) (by kernel_rfl) (by kernel_rfl) (Ha0_f3.isSome hb195.1 hb195.2) hb195.1 hb195.2 sl23) ?_
                          refine WL.tellE (op := .load 25 (.tmp 99)) (ty := 25) (d := some 100) (g := none) (by kernel_rfl) (by kernel_rfl) (by kernel_rfl) (Ha0_f3.load (agg := true) hb195.1 hb195.2 z25 ag25 (fun h => by cases h) (by kernel_rfl)) ?_
                          rintro _ hrel
                          obtain ⟨_, _, rfl, rfl, ⟨_, _, rfl, rfl, ⟨_, _, rfl, ⟨Ae196, ce196, rfl, He196⟩, ⟨Ae197, ce197, rfl, He197⟩⟩⟩⟩ := k25_out hrel
                          replace He196 : Rd kStr G Ae196 ce196 ((a0.f3.getD y191.toNat z25).f2) := He196
                          replace He197 : Rd k25 G Ae197 ce197 ((a0.f3.getD y191.toNat z25).f3) := He197
                          rw [Option.bind_eq_some_iff] at h
                          obtain ⟨t198, ht199, h⟩ := h
                          refine WL.op (op := .call { callee := (.value (.func 53)), args := #[(.tmp 100)], argTypes := #[25] }) (ty := 4) (d := some 101) (g := none) (by kernel_rfl) (by kernel_rfl) (by kernel_rfl) (Does.call (f := 53) (args := [.agg #[.int .i64 ((a0.f3.getD y191.toNat z25).f0), .int .i64 ((a0.f3.getD y191.toNat z25).f1), .slice Ae196 ((a0.f3.getD y191.toNat z25).f2).length ce196, .slice Ae197 ((a0.f3.getD y191.toNat z25).f3).length ce197]]) (by kernel_rfl) (fun W hI => (ih HT (a0.f3.getD y191.toNat z25) Ae196 ce196 He196 Ae197 ce197 He197 t198 ht199 hI))) ?_
                          rintro _ _ _ ⟨rfl, rfl, rfl⟩
                          refine WL.restQ 6 [1, 3, 4, 6, 102] (L' := [(1, .pointer (some ⟨b1, 0, none⟩)), (3, .bool (a0.f1 == 0)), (4, .bool ((a0.f2.length : Int) == 0)), (6, .int .i64 y191), (102, .bool (!t198))]) (by kernel_rfl) ?_
                          refine WP.cond (b := (!t198)) (by kernel_rfl) (fun hc => ?_) (fun hc => ?_)
                          · replace hc := hc
                            rw [if_pos hc] at h
                            have hc202 := hc
                            clear hc
                            refine WP.seqP [2] (L' := [(2, .bool false)]) (by kernel_rfl) ?_
                            refine WP.dropAt 0 ?_
                            refine WP.ret ?_
                            refine QP.blockR ?_
                            refine QP.thenR ?_
                            refine QP.thenR ?_
                            refine QP.blockR ?_
                            refine QP.thenR ?_
                            refine QP.thenR ?_
                            obtain rfl := Option.some.inj h
                            obtain rfl := Option.some.inj (show some _ = some _ from hk190)
                            exact QP.returned [2] [.bool false] _ (by kernel_rfl) (by kernel_rfl) (by kernel_rfl) (fun W hI => ⟨_, _, _, rfl, ⟨rfl, rfl, rfl⟩, hI⟩)
                          · replace hc := (Bool.eq_false_iff.1 hc)
                            rw [if_neg hc] at h
                            have hc202 := hc
                            clear hc
                            refine WP.skip ?_
                            refine QP.blockN ?_
                            refine QP.next ?_
                            refine WP.pick [1, 3, 4, 6] ?_
                            refine WP.regionP [1, 3, 4, 6] (L' := [(1, .pointer (some ⟨b1, 0, none⟩)), (3, .bool (a0.f1 == 0)), (4, .bool ((a0.f2.length : Int) == 0)), (6, .int .i64 (IntKind.i64.wrap (y191 + 1)))]) (by kernel_rfl) ?_
                            refine QP.pick [1, 3, 4, 6] ?_
                            exact QP.meet ⟨kn193, Nat.lt_succ_self _, (IntKind.i64.wrap (y191 + 1)), h, rfl, rfl, rfl⟩
                        · replace hc := of_decide_eq_false hc
                          rw [if_neg hc] at h
                          have hc194 := hc
                          clear hc
                          refine WP.exit ?_
                          refine QP.thenE ?_
                          refine QP.thenE ?_
                          refine QP.blockE ?_
                          refine QP.dropAt 0 ?_
                          refine QP.pick [3, 4] ?_
                          exact QP.meet ⟨_, Option.some.inj h, rfl, rfl, rfl⟩
                    · rintro _ _ _ ⟨s189, rfl, rfl, rfl, rfl⟩
                      clear h
                      replace h := hk190
                      dsimp only at h
                      refine QP.next ?_
                      refine WP.pick [3, 4] ?_
                      rw [Option.bind_eq_some_iff] at h
                      obtain ⟨os203, h, hk204⟩ := h
                      refine WP.cut (fun L' G' Γ' => ∃ s203 : Bool, s203 = os203 ∧ L' = [(2, .bool s203)] ∧ G = G' ∧ Γ = Γ') ?_ ?_
                      · clear hk204
                        refine WP.region ?_
                        refine WL.pure 0 2 [4, 104] (L' := [(4, .bool ((a0.f2.length : Int) == 0)), (104, .bool (a0.f1 == 0))]) (by kernel_rfl) (by decide) ?_
                        refine WL.split 104 (b := (a0.f1 == 0)) (by kernel_rfl) (fun hc => ?_) (fun hc => ?_)
                        · replace hc := eq_of_beq hc
                          rw [if_pos hc] at h
                          have hc205 := hc
                          clear hc
                          refine WL.rest 2 [2] (L' := [(2, .bool ((a0.f2.length : Int) == 0))]) (by kernel_rfl) ?_
                          refine QP.pick [2] ?_
                          exact QP.meet ⟨_, Option.some.inj h, rfl, rfl, rfl⟩
                        · replace hc := ne_of_beq_false hc
                          rw [if_neg hc] at h
                          have hc205 := hc
                          clear hc
                          refine WL.rest 2 [2] (L' := [(2, .bool false)]) (by kernel_rfl) ?_
                          refine QP.pick [2] ?_
                          exact QP.meet ⟨_, Option.some.inj h, rfl, rfl, rfl⟩
                      · rintro _ _ _ ⟨s203, rfl, rfl, rfl, rfl⟩
                        clear h
                        replace h := hk204
                        refine WP.ret ?_
                        obtain rfl := Option.some.inj h
                        exact QP.returned [2] [.bool s203] _ (by kernel_rfl) (by kernel_rfl) (by kernel_rfl) (fun W hI => ⟨_, _, _, rfl, ⟨rfl, rfl, rfl⟩, hI⟩)
                · replace hc := ne_of_beq_false hc
                  rw [if_neg hc] at h
                  have hc187 := hc
                  clear hc
                  refine WP.seq ?_
                  refine WP.seqP [1, 3, 4, 19, 82] (L' := [(1, .pointer (some ⟨b1, 0, none⟩)), (3, .bool (a0.f1 == 0)), (4, .bool ((a0.f2.length : Int) == 0)), (19, .int .i64 a0.f0), (82, .bool (a0.f0 == 7))]) (by kernel_rfl) ?_
                  refine WP.cond (b := (a0.f0 == 7)) (by kernel_rfl) (fun hc => ?_) (fun hc => ?_)
                  · replace hc := eq_of_beq hc
                    rw [if_pos hc] at h
                    have hc206 := hc
                    clear hc
                    refine WP.skip ?_
                    refine QP.next ?_
                    refine WP.pick [1, 3, 4, 82] ?_
                    refine WP.cond (b := (a0.f0 == 7)) (by kernel_rfl) (fun hc => ?_) (fun hc => ?_)
                    · replace hc := eq_of_beq hc
                      rw [if_pos hc] at h
                      have hc207 := hc
                      clear hc
                      refine WP.seqR ?_
                      refine WL.pure 0 1 [1, 3, 4, 85] (L' := [(1, .pointer (some ⟨b1, 0, none⟩)), (3, .bool (a0.f1 == 0)), (4, .bool ((a0.f2.length : Int) == 0)), (85, .pointer (some ⟨b1, 3, none⟩))]) (by kernel_rfl) (by decide) ?_
                      refine WL.tell (op := .load 23 (.tmp 85)) (ty := 23) (d := some 86) (g := none) (by kernel_rfl) (by kernel_rfl) (by kernel_rfl) (Tells.load_box (i := 0) (b := b1) (o := 3) (agg := false) (by rfl) ag23 (by kernel_rfl) (fun _ => rfl) (Nat.le_of_ble_eq_true rfl) (v := .slice Aa0_f3 a0.f3.length ca0_f3) (by kernel_rfl)) ?_
                      refine WL.restQ 2 [1, 3, 4, 88] (L' := [(1, .pointer (some ⟨b1, 0, none⟩)), (3, .bool (a0.f1 == 0)), (4, .bool ((a0.f2.length : Int) == 0)), (88, .bool (decide ((a0.f3.length : Int) < 2)))]) (by kernel_rfl) ?_
                      refine WP.cond (b := decide ((a0.f3.length : Int) < 2)) (by kernel_rfl) (fun hc => ?_) (fun hc => ?_)
                      · replace hc := of_decide_eq_true hc
                        rw [if_pos hc] at h
                        have hc208 := hc
                        clear hc
                        refine WP.seqP [2] (L' := [(2, .bool false)]) (by kernel_rfl) ?_
                        refine WP.dropAt 0 ?_
                        refine WP.ret ?_
                        refine QP.blockR ?_
                        refine QP.thenR ?_
                        obtain rfl := Option.some.inj h
                        exact QP.returned [2] [.bool false] _ (by kernel_rfl) (by kernel_rfl) (by kernel_rfl) (fun W hI => ⟨_, _, _, rfl, ⟨rfl, rfl, rfl⟩, hI⟩)
                      · replace hc := of_decide_eq_false hc
                        rw [if_neg hc] at h
                        have hc208 := hc
                        clear hc
                        refine WP.skip ?_
                        refine QP.blockN ?_
                        refine QP.next ?_
                        refine WP.pick [1, 3, 4] ?_
                        refine WP.seq ?_
                        refine WP.seqP [1, 3, 4, 6] (L' := [(1, .pointer (some ⟨b1, 0, none⟩)), (3, .bool (a0.f1 == 0)), (4, .bool ((a0.f2.length : Int) == 0)), (6, .int .i64 0)]) (by kernel_rfl) ?_
                        rw [Option.bind_eq_some_iff] at h
                        obtain ⟨os209, h, hk210⟩ := h
                        refine WP.cutQ (fun L' G' Γ' => ∃ s209 : Unit, Sum.inr s209 = os209 ∧ L' = [(3, .bool (a0.f1 == 0)), (4, .bool ((a0.f2.length : Int) == 0))] ∧ G = G' ∧ Γ = Γ') ?_ ?_
                        · skip
                          refine WP.block ?_
                          refine WP.pick [1, 3, 4, 6] ?_
                          refine WP.loopF (fun kn212 L' G' Γ' => ∃ (y211 : Int), grapevineref14_form_l7 a0 (grapevineref14_form kf) kn212 y211 = some os209 ∧ L' = [(1, .pointer (some ⟨b1, 0, none⟩)), (3, .bool (a0.f1 == 0)), (4, .bool ((a0.f2.length : Int) == 0)), (6, .int .i64 y211)] ∧ G = G' ∧ [(b1, .cells #[.int .i64 a0.f0, .int .i64 a0.f1, .slice Aa0_f2 a0.f2.length ca0_f2, .slice Aa0_f3 a0.f3.length ca0_f3] 25 (0, 0))] :: Γ = Γ') ?_ kf ⟨0, h, rfl, rfl, rfl⟩
                          clear h
                          rintro kn213 _ _ _ ⟨y211, h, rfl, rfl, rfl⟩
                          cases kn213 with
                          | zero => exact absurd h (by simp [grapevineref14_form_l7])
                          | succ kn213 =>
                            simp only [grapevineref14_form_l7] at h
                            refine WP.seq ?_
                            refine WP.seqR ?_
                            refine WL.pure 0 2 [1, 3, 4, 6, 89, 90] (L' := [(1, .pointer (some ⟨b1, 0, none⟩)), (3, .bool (a0.f1 == 0)), (4, .bool ((a0.f2.length : Int) == 0)), (6, .int .i64 y211), (89, .int .i64 y211), (90, .pointer (some ⟨b1, 3, none⟩))]) (by kernel_rfl) (by decide) ?_
                            refine WL.tell (op := .load 23 (.tmp 90)) (ty := 23) (d := some 91) (g := none) (by kernel_rfl) (by kernel_rfl) (by kernel_rfl) (Tells.load_box (i := 0) (b := b1) (o := 3) (agg := false) (by rfl) ag23 (by kernel_rfl) (fun _ => rfl) (Nat.le_of_ble_eq_true rfl) (v := .slice Aa0_f3 a0.f3.length ca0_f3) (by kernel_rfl)) ?_
                            refine WL.restQ 3 [1, 3, 4, 6, 93] (L' := [(1, .pointer (some ⟨b1, 0, none⟩)), (3, .bool (a0.f1 == 0)), (4, .bool ((a0.f2.length : Int) == 0)), (6, .int .i64 y211), (93, .bool (decide (y211 < (a0.f3.length : Int))))]) (by kernel_rfl) ?_
                            refine WP.cond (b := decide (y211 < (a0.f3.length : Int))) (by kernel_rfl) (fun hc => ?_) (fun hc => ?_)
                            · replace hc := of_decide_eq_true hc
                              rw [if_pos hc] at h
                              have hc214 := hc
                              clear hc
                              refine WP.skip ?_
                              refine QP.next ?_
                              refine WP.pick [1, 3, 4, 6] ?_
                              refine WP.seq ?_
                              refine WP.block ?_
                              refine WP.seqR ?_
                              refine WL.pure 0 1 [1, 3, 4, 6, 96] (L' := [(1, .pointer (some ⟨b1, 0, none⟩)), (3, .bool (a0.f1 == 0)), (4, .bool ((a0.f2.length : Int) == 0)), (6, .int .i64 y211), (96, .pointer (some ⟨b1, 3, none⟩))]) (by kernel_rfl) (by decide) ?_
                              refine WL.tell (op := .load 23 (.tmp 96)) (ty := 23) (d := some 97) (g := none) (by kernel_rfl) (by kernel_rfl) (by kernel_rfl) (Tells.load_box (i := 0) (b := b1) (o := 3) (agg := false) (by rfl) ag23 (by kernel_rfl) (fun _ => rfl) (Nat.le_of_ble_eq_true rfl) (v := .slice Aa0_f3 a0.f3.length ca0_f3) (by kernel_rfl)) ?_
                              refine WL.pure 2 3 [1, 3, 4, 6, 97, 98] (L' := [(1, .pointer (some ⟨b1, 0, none⟩)), (3, .bool (a0.f1 == 0)), (4, .bool ((a0.f2.length : Int) == 0)), (6, .int .i64 y211), (97, .slice Aa0_f3 a0.f3.length ca0_f3), (98, .int .i64 y211)]) (by kernel_rfl) (by decide) ?_
                              by_cases hb215 : 0 ≤ y211 ∧ y211 < (a0.f3.length : Int)
                              case neg => rw [if_neg hb215] at h; cases h
                              rw [if_pos hb215] at h
                              refine WL.tell (op := .indexAddr 23 (.tmp 97) (.tmp 98)) (ty := 0) (d := some 99) (g := none) (by kernel_rfl) (by kernel_rfl) (by kernel_rfl) (Tells.indexAddr (A := Aa0_f3) (n := a0.f3.length) (c := ca0_f3) (k := .i64) (j := y211) (by kernel_rfl) (by kernel_rfl) (Ha0_f3.isSome hb215.1 hb215.2) hb215.1 hb215.2 sl23) ?_
                              refine WL.tellE (op := .load 25 (.tmp 99)) (ty := 25) (d := some 100) (g := none) (by kernel_rfl) (by kernel_rfl) (by kernel_rfl) (Ha0_f3.load (agg := true) hb215.1 hb215.2 z25 ag25 (fun h => by cases h) (by kernel_rfl)) ?_
                              rintro _ hrel
                              obtain ⟨_, _, rfl, rfl, ⟨_, _, rfl, rfl, ⟨_, _, rfl, ⟨Ae216, ce216, rfl, He216⟩, ⟨Ae217, ce217, rfl, He217⟩⟩⟩⟩ := k25_out hrel
                              replace He216 : Rd kStr G Ae216 ce216 ((a0.f3.getD y211.toNat z25).f2) := He216
                              replace He217 : Rd k25 G Ae217 ce217 ((a0.f3.getD y211.toNat z25).f3) := He217
                              rw [Option.bind_eq_some_iff] at h
                              obtain ⟨t218, ht219, h⟩ := h
                              refine WL.op (op := .call { callee := (.value (.func 53)), args := #[(.tmp 100)], argTypes := #[25] }) (ty := 4) (d := some 101) (g := none) (by kernel_rfl) (by kernel_rfl) (by kernel_rfl) (Does.call (f := 53) (args := [.agg #[.int .i64 ((a0.f3.getD y211.toNat z25).f0), .int .i64 ((a0.f3.getD y211.toNat z25).f1), .slice Ae216 ((a0.f3.getD y211.toNat z25).f2).length ce216, .slice Ae217 ((a0.f3.getD y211.toNat z25).f3).length ce217]]) (by kernel_rfl) (fun W hI => (ih HT (a0.f3.getD y211.toNat z25) Ae216 ce216 He216 Ae217 ce217 He217 t218 ht219 hI))) ?_
                              rintro _ _ _ ⟨rfl, rfl, rfl⟩
                              refine WL.restQ 6 [1, 3, 4, 6, 102] (L' := [(1, .pointer (some ⟨b1, 0, none⟩)), (3, .bool (a0.f1 == 0)), (4, .bool ((a0.f2.length : Int) == 0)), (6, .int .i64 y211), (102, .bool (!t218))]) (by kernel_rfl) ?_
                              refine WP.cond (b := (!t218)) (by kernel_rfl) (fun hc => ?_) (fun hc => ?_)
                              · replace hc := hc
                                rw [if_pos hc] at h
                                have hc222 := hc
                                clear hc
                                refine WP.seqP [2] (L' := [(2, .bool false)]) (by kernel_rfl) ?_
                                refine WP.dropAt 0 ?_
                                refine WP.ret ?_
                                refine QP.blockR ?_
                                refine QP.thenR ?_
                                refine QP.thenR ?_
                                refine QP.blockR ?_
                                refine QP.thenR ?_
                                refine QP.thenR ?_
                                obtain rfl := Option.some.inj h
                                obtain rfl := Option.some.inj (show some _ = some _ from hk210)
                                exact QP.returned [2] [.bool false] _ (by kernel_rfl) (by kernel_rfl) (by kernel_rfl) (fun W hI => ⟨_, _, _, rfl, ⟨rfl, rfl, rfl⟩, hI⟩)
                              · replace hc := (Bool.eq_false_iff.1 hc)
                                rw [if_neg hc] at h
                                have hc222 := hc
                                clear hc
                                refine WP.skip ?_
                                refine QP.blockN ?_
                                refine QP.next ?_
                                refine WP.pick [1, 3, 4, 6] ?_
                                refine WP.regionP [1, 3, 4, 6] (L' := [(1, .pointer (some ⟨b1, 0, none⟩)), (3, .bool (a0.f1 == 0)), (4, .bool ((a0.f2.length : Int) == 0)), (6, .int .i64 (IntKind.i64.wrap (y211 + 1)))]) (by kernel_rfl) ?_
                                refine QP.pick [1, 3, 4, 6] ?_
                                exact QP.meet ⟨kn213, Nat.lt_succ_self _, (IntKind.i64.wrap (y211 + 1)), h, rfl, rfl, rfl⟩
                            · replace hc := of_decide_eq_false hc
                              rw [if_neg hc] at h
                              have hc214 := hc
                              clear hc
                              refine WP.exit ?_
                              refine QP.thenE ?_
                              refine QP.thenE ?_
                              refine QP.blockE ?_
                              refine QP.dropAt 0 ?_
                              refine QP.pick [3, 4] ?_
                              exact QP.meet ⟨_, Option.some.inj h, rfl, rfl, rfl⟩
                        · rintro _ _ _ ⟨s209, rfl, rfl, rfl, rfl⟩
                          clear h
                          replace h := hk210
                          dsimp only at h
                          refine QP.next ?_
                          refine WP.pick [3, 4] ?_
                          rw [Option.bind_eq_some_iff] at h
                          obtain ⟨os223, h, hk224⟩ := h
                          refine WP.cut (fun L' G' Γ' => ∃ s223 : Bool, s223 = os223 ∧ L' = [(2, .bool s223)] ∧ G = G' ∧ Γ = Γ') ?_ ?_
                          · clear hk224
                            refine WP.region ?_
                            refine WL.pure 0 2 [4, 104] (L' := [(4, .bool ((a0.f2.length : Int) == 0)), (104, .bool (a0.f1 == 0))]) (by kernel_rfl) (by decide) ?_
                            refine WL.split 104 (b := (a0.f1 == 0)) (by kernel_rfl) (fun hc => ?_) (fun hc => ?_)
                            · replace hc := eq_of_beq hc
                              rw [if_pos hc] at h
                              have hc225 := hc
                              clear hc
                              refine WL.rest 2 [2] (L' := [(2, .bool ((a0.f2.length : Int) == 0))]) (by kernel_rfl) ?_
                              refine QP.pick [2] ?_
                              exact QP.meet ⟨_, Option.some.inj h, rfl, rfl, rfl⟩
                            · replace hc := ne_of_beq_false hc
                              rw [if_neg hc] at h
                              have hc225 := hc
                              clear hc
                              refine WL.rest 2 [2] (L' := [(2, .bool false)]) (by kernel_rfl) ?_
                              refine QP.pick [2] ?_
                              exact QP.meet ⟨_, Option.some.inj h, rfl, rfl, rfl⟩
                          · rintro _ _ _ ⟨s223, rfl, rfl, rfl, rfl⟩
                            clear h
                            replace h := hk224
                            refine WP.ret ?_
                            obtain rfl := Option.some.inj h
                            exact QP.returned [2] [.bool s223] _ (by kernel_rfl) (by kernel_rfl) (by kernel_rfl) (fun W hI => ⟨_, _, _, rfl, ⟨rfl, rfl, rfl⟩, hI⟩)
                    · replace hc := ne_of_beq_false hc
                      rw [if_neg hc] at h
                      have hc207 := hc
                      clear hc
                      refine WP.seqP [2] (L' := [(2, .bool false)]) (by kernel_rfl) ?_
                      refine WP.dropAt 0 ?_
                      refine WP.ret ?_
                      refine QP.blockR ?_
                      refine QP.thenR ?_
                      obtain rfl := Option.some.inj h
                      exact QP.returned [2] [.bool false] _ (by kernel_rfl) (by kernel_rfl) (by kernel_rfl) (fun W hI => ⟨_, _, _, rfl, ⟨rfl, rfl, rfl⟩, hI⟩)
                  · replace hc := ne_of_beq_false hc
                    rw [if_neg hc] at h
                    have hc206 := hc
                    clear hc
                    refine WP.regionP [1, 3, 4, 82] (L' := [(1, .pointer (some ⟨b1, 0, none⟩)), (3, .bool (a0.f1 == 0)), (4, .bool ((a0.f2.length : Int) == 0)), (82, .bool (a0.f0 == 8))]) (by kernel_rfl) ?_
                    refine QP.next ?_
                    refine WP.pick [1, 3, 4, 82] ?_
                    refine WP.cond (b := (a0.f0 == 8)) (by kernel_rfl) (fun hc => ?_) (fun hc => ?_)
                    · replace hc := eq_of_beq hc
                      rw [if_pos hc] at h
                      have hc226 := hc
                      clear hc
                      refine WP.seqR ?_
                      refine WL.pure 0 1 [1, 3, 4, 85] (L' := [(1, .pointer (some ⟨b1, 0, none⟩)), (3, .bool (a0.f1 == 0)), (4, .bool ((a0.f2.length : Int) == 0)), (85, .pointer (some ⟨b1, 3, none⟩))]) (by kernel_rfl) (by decide) ?_
                      refine WL.tell (op := .load 23 (.tmp 85)) (ty := 23) (d := some 86) (g := none) (by kernel_rfl) (by kernel_rfl) (by kernel_rfl) (Tells.load_box (i := 0) (b := b1) (o := 3) (agg := false) (by rfl) ag23 (by kernel_rfl) (fun _ => rfl) (Nat.le_of_ble_eq_true rfl) (v := .slice Aa0_f3 a0.f3.length ca0_f3) (by kernel_rfl)) ?_
                      refine WL.restQ 2 [1, 3, 4, 88] (L' := [(1, .pointer (some ⟨b1, 0, none⟩)), (3, .bool (a0.f1 == 0)), (4, .bool ((a0.f2.length : Int) == 0)), (88, .bool (decide ((a0.f3.length : Int) < 2)))]) (by kernel_rfl) ?_
                      refine WP.cond (b := decide ((a0.f3.length : Int) < 2)) (by kernel_rfl) (fun hc => ?_) (fun hc => ?_)
                      · replace hc := of_decide_eq_true hc
                        rw [if_pos hc] at h
                        have hc227 := hc
                        clear hc
                        refine WP.seqP [2] (L' := [(2, .bool false)]) (by kernel_rfl) ?_
                        refine WP.dropAt 0 ?_
                        refine WP.ret ?_
                        refine QP.blockR ?_
                        refine QP.thenR ?_
                        obtain rfl := Option.some.inj h
                        exact QP.returned [2] [.bool false] _ (by kernel_rfl) (by kernel_rfl) (by kernel_rfl) (fun W hI => ⟨_, _, _, rfl, ⟨rfl, rfl, rfl⟩, hI⟩)
                      · replace hc := of_decide_eq_false hc
                        rw [if_neg hc] at h
                        have hc227 := hc
                        clear hc
                        refine WP.skip ?_
                        refine QP.blockN ?_
                        refine QP.next ?_
                        refine WP.pick [1, 3, 4] ?_
                        refine WP.seq ?_
                        refine WP.seqP [1, 3, 4, 6] (L' := [(1, .pointer (some ⟨b1, 0, none⟩)), (3, .bool (a0.f1 == 0)), (4, .bool ((a0.f2.length : Int) == 0)), (6, .int .i64 0)]) (by kernel_rfl) ?_
                        rw [Option.bind_eq_some_iff] at h
                        obtain ⟨os228, h, hk229⟩ := h
                        refine WP.cutQ (fun L' G' Γ' => ∃ s228 : Unit, Sum.inr s228 = os228 ∧ L' = [(3, .bool (a0.f1 == 0)), (4, .bool ((a0.f2.length : Int) == 0))] ∧ G = G' ∧ Γ = Γ') ?_ ?_
                        · skip
                          refine WP.block ?_
                          refine WP.pick [1, 3, 4, 6] ?_
                          refine WP.loopF (fun kn231 L' G' Γ' => ∃ (y230 : Int), grapevineref14_form_l8 a0 (grapevineref14_form kf) kn231 y230 = some os228 ∧ L' = [(1, .pointer (some ⟨b1, 0, none⟩)), (3, .bool (a0.f1 == 0)), (4, .bool ((a0.f2.length : Int) == 0)), (6, .int .i64 y230)] ∧ G = G' ∧ [(b1, .cells #[.int .i64 a0.f0, .int .i64 a0.f1, .slice Aa0_f2 a0.f2.length ca0_f2, .slice Aa0_f3 a0.f3.length ca0_f3] 25 (0, 0))] :: Γ = Γ') ?_ kf ⟨0, h, rfl, rfl, rfl⟩
                          clear h
                          rintro kn232 _ _ _ ⟨y230, h, rfl, rfl, rfl⟩
                          cases kn232 with
                          | zero => exact absurd h (by simp [grapevineref14_form_l8])
                          | succ kn232 =>
                            simp only [grapevineref14_form_l8] at h
                            refine WP.seq ?_
                            refine WP.seqR ?_
                            refine WL.pure 0 2 [1, 3, 4, 6, 89, 90] (L' := [(1, .pointer (some ⟨b1, 0, none⟩)), (3, .bool (a0.f1 == 0)), (4, .bool ((a0.f2.length : Int) == 0)), (6, .int .i64 y230), (89, .int .i64 y230), (90, .pointer (some ⟨b1, 3, none⟩))]) (by kernel_rfl) (by decide) ?_
                            refine WL.tell (op := .load 23 (.tmp 90)) (ty := 23) (d := some 91) (g := none) (by kernel_rfl) (by kernel_rfl) (by kernel_rfl) (Tells.load_box (i := 0) (b := b1) (o := 3) (agg := false) (by rfl) ag23 (by kernel_rfl) (fun _ => rfl) (Nat.le_of_ble_eq_true rfl) (v := .slice Aa0_f3 a0.f3.length ca0_f3) (by kernel_rfl)) ?_
                            refine WL.restQ 3 [1, 3, 4, 6, 93] (L' := [(1, .pointer (some ⟨b1, 0, none⟩)), (3, .bool (a0.f1 == 0)), (4, .bool ((a0.f2.length : Int) == 0)), (6, .int .i64 y230), (93, .bool (decide (y230 < (a0.f3.length : Int))))]) (by kernel_rfl) ?_
                            refine WP.cond (b := decide (y230 < (a0.f3.length : Int))) (by kernel_rfl) (fun hc => ?_) (fun hc => ?_)
                            · replace hc := of_decide_eq_true hc
                              rw [if_pos hc] at h
                              have hc233 := hc
                              clear hc
                              refine WP.skip ?_
                              refine QP.next ?_
                              refine WP.pick [1, 3, 4, 6] ?_
                              refine WP.seq ?_
                              refine WP.block ?_
                              refine WP.seqR ?_
                              refine WL.pure 0 1 [1, 3, 4, 6, 96] (L' := [(1, .pointer (some ⟨b1, 0, none⟩)), (3, .bool (a0.f1 == 0)), (4, .bool ((a0.f2.length : Int) == 0)), (6, .int .i64 y230), (96, .pointer (some ⟨b1, 3, none⟩))]) (by kernel_rfl) (by decide) ?_
                              refine WL.tell (op := .load 23 (.tmp 96)) (ty := 23) (d := some 97) (g := none) (by kernel_rfl) (by kernel_rfl) (by kernel_rfl) (Tells.load_box (i := 0) (b := b1) (o := 3) (agg := false) (by rfl) ag23 (by kernel_rfl) (fun _ => rfl) (Nat.le_of_ble_eq_true rfl) (v := .slice Aa0_f3 a0.f3.length ca0_f3) (by kernel_rfl)) ?_
                              refine WL.pure 2 3 [1, 3, 4, 6, 97, 98] (L' := [(1, .pointer (some ⟨b1, 0, none⟩)), (3, .bool (a0.f1 == 0)), (4, .bool ((a0.f2.length : Int) == 0)), (6, .int .i64 y230), (97, .slice Aa0_f3 a0.f3.length ca0_f3), (98, .int .i64 y230)]) (by kernel_rfl) (by decide) ?_
                              by_cases hb234 : 0 ≤ y230 ∧ y230 < (a0.f3.length : Int)
                              case neg => rw [if_neg hb234] at h; cases h
                              rw [if_pos hb234] at h
                              refine WL.tell (op := .indexAddr 23 (.tmp 97) (.tmp 98)) (ty := 0) (d := some 99) (g := none) (by kernel_rfl) (by kernel_rfl) (by kernel_rfl) (Tells.indexAddr (A := Aa0_f3) (n := a0.f3.length) (c := ca0_f3) (k := .i64) (j := y230) (by kernel_rfl) (by kernel_rfl) (Ha0_f3.isSome hb234.1 hb234.2) hb234.1 hb234.2 sl23) ?_
                              refine WL.tellE (op := .load 25 (.tmp 99)) (ty := 25) (d := some 100) (g := none) (by kernel_rfl) (by kernel_rfl) (by kernel_rfl) (Ha0_f3.load (agg := true) hb234.1 hb234.2 z25 ag25 (fun h => by cases h) (by kernel_rfl)) ?_
                              rintro _ hrel
                              obtain ⟨_, _, rfl, rfl, ⟨_, _, rfl, rfl, ⟨_, _, rfl, ⟨Ae235, ce235, rfl, He235⟩, ⟨Ae236, ce236, rfl, He236⟩⟩⟩⟩ := k25_out hrel
                              replace He235 : Rd kStr G Ae235 ce235 ((a0.f3.getD y230.toNat z25).f2) := He235
                              replace He236 : Rd k25 G Ae236 ce236 ((a0.f3.getD y230.toNat z25).f3) := He236
                              rw [Option.bind_eq_some_iff] at h
                              obtain ⟨t237, ht238, h⟩ := h
                              refine WL.op (op := .call { callee := (.value (.func 53)), args := #[(.tmp 100)], argTypes := #[25] }) (ty := 4) (d := some 101) (g := none) (by kernel_rfl) (by kernel_rfl) (by kernel_rfl) (Does.call (f := 53) (args := [.agg #[.int .i64 ((a0.f3.getD y230.toNat z25).f0), .int .i64 ((a0.f3.getD y230.toNat z25).f1), .slice Ae235 ((a0.f3.getD y230.toNat z25).f2).length ce235, .slice Ae236 ((a0.f3.getD y230.toNat z25).f3).length ce236]]) (by kernel_rfl) (fun W hI => (ih HT (a0.f3.getD y230.toNat z25) Ae235 ce235 He235 Ae236 ce236 He236 t237 ht238 hI))) ?_
                              rintro _ _ _ ⟨rfl, rfl, rfl⟩
                              refine WL.restQ 6 [1, 3, 4, 6, 102] (L' := [(1, .pointer (some ⟨b1, 0, none⟩)), (3, .bool (a0.f1 == 0)), (4, .bool ((a0.f2.length : Int) == 0)), (6, .int .i64 y230), (102, .bool (!t237))]) (by kernel_rfl) ?_
                              refine WP.cond (b := (!t237)) (by kernel_rfl) (fun hc => ?_) (fun hc => ?_)
                              · replace hc := hc
                                rw [if_pos hc] at h
                                have hc241 := hc
                                clear hc
                                refine WP.seqP [2] (L' := [(2, .bool false)]) (by kernel_rfl) ?_
                                refine WP.dropAt 0 ?_
                                refine WP.ret ?_
                                refine QP.blockR ?_
                                refine QP.thenR ?_
                                refine QP.thenR ?_
                                refine QP.blockR ?_
                                refine QP.thenR ?_
                                refine QP.thenR ?_
                                obtain rfl := Option.some.inj h
                                obtain rfl := Option.some.inj (show some _ = some _ from hk229)
                                exact QP.returned [2] [.bool false] _ (by kernel_rfl) (by kernel_rfl) (by kernel_rfl) (fun W hI => ⟨_, _, _, rfl, ⟨rfl, rfl, rfl⟩, hI⟩)
                              · replace hc := (Bool.eq_false_iff.1 hc)
                                rw [if_neg hc] at h
                                have hc241 := hc
                                clear hc
                                refine WP.skip ?_
                                refine QP.blockN ?_
                                refine QP.next ?_
                                refine WP.pick [1, 3, 4, 6] ?_
                                refine WP.regionP [1, 3, 4, 6] (L' := [(1, .pointer (some ⟨b1, 0, none⟩)), (3, .bool (a0.f1 == 0)), (4, .bool ((a0.f2.length : Int) == 0)), (6, .int .i64 (IntKind.i64.wrap (y230 + 1)))]) (by kernel_rfl) ?_
                                refine QP.pick [1, 3, 4, 6] ?_
                                exact QP.meet ⟨kn232, Nat.lt_succ_self _, (IntKind.i64.wrap (y230 + 1)), h, rfl, rfl, rfl⟩
                            · replace hc := of_decide_eq_false hc
                              rw [if_neg hc] at h
                              have hc233 := hc
                              clear hc
                              refine WP.exit ?_
                              refine QP.thenE ?_
                              refine QP.thenE ?_
                              refine QP.blockE ?_
                              refine QP.dropAt 0 ?_
                              refine QP.pick [3, 4] ?_
                              exact QP.meet ⟨_, Option.some.inj h, rfl, rfl, rfl⟩
                        · rintro _ _ _ ⟨s228, rfl, rfl, rfl, rfl⟩
                          clear h
                          replace h := hk229
                          dsimp only at h
                          refine QP.next ?_
                          refine WP.pick [3, 4] ?_
                          rw [Option.bind_eq_some_iff] at h
                          obtain ⟨os242, h, hk243⟩ := h
                          refine WP.cut (fun L' G' Γ' => ∃ s242 : Bool, s242 = os242 ∧ L' = [(2, .bool s242)] ∧ G = G' ∧ Γ = Γ') ?_ ?_
                          · clear hk243
                            refine WP.region ?_
                            refine WL.pure 0 2 [4, 104] (L' := [(4, .bool ((a0.f2.length : Int) == 0)), (104, .bool (a0.f1 == 0))]) (by kernel_rfl) (by decide) ?_
                            refine WL.split 104 (b := (a0.f1 == 0)) (by kernel_rfl) (fun hc => ?_) (fun hc => ?_)
                            · replace hc := eq_of_beq hc
                              rw [if_pos hc] at h
                              have hc244 := hc
                              clear hc
                              refine WL.rest 2 [2] (L' := [(2, .bool ((a0.f2.length : Int) == 0))]) (by kernel_rfl) ?_
                              refine QP.pick [2] ?_
                              exact QP.meet ⟨_, Option.some.inj h, rfl, rfl, rfl⟩
                            · replace hc := ne_of_beq_false hc
                              rw [if_neg hc] at h
                              have hc244 := hc
                              clear hc
                              refine WL.rest 2 [2] (L' := [(2, .bool false)]) (by kernel_rfl) ?_
                              refine QP.pick [2] ?_
                              exact QP.meet ⟨_, Option.some.inj h, rfl, rfl, rfl⟩
                          · rintro _ _ _ ⟨s242, rfl, rfl, rfl, rfl⟩
                            clear h
                            replace h := hk243
                            refine WP.ret ?_
                            obtain rfl := Option.some.inj h
                            exact QP.returned [2] [.bool s242] _ (by kernel_rfl) (by kernel_rfl) (by kernel_rfl) (fun W hI => ⟨_, _, _, rfl, ⟨rfl, rfl, rfl⟩, hI⟩)
                    · replace hc := ne_of_beq_false hc
                      rw [if_neg hc] at h
                      have hc226 := hc
                      clear hc
                      refine WP.seqP [2] (L' := [(2, .bool false)]) (by kernel_rfl) ?_
                      refine WP.dropAt 0 ?_
                      refine WP.ret ?_
                      refine QP.blockR ?_
                      refine QP.thenR ?_
                      obtain rfl := Option.some.inj h
                      exact QP.returned [2] [.bool false] _ (by kernel_rfl) (by kernel_rfl) (by kernel_rfl) (fun W hI => ⟨_, _, _, rfl, ⟨rfl, rfl, rfl⟩, hI⟩)
            · replace hc := ne_of_beq_false hc
              rw [if_neg hc] at h
              have hc180 := hc
              clear hc
              refine WP.regionP [1, 3, 4, 5, 19, 59] (L' := [(1, .pointer (some ⟨b1, 0, none⟩)), (3, .bool (a0.f1 == 0)), (4, .bool ((a0.f2.length : Int) == 0)), (5, .bool ((a0.f3.length : Int) == 0)), (19, .int .i64 a0.f0), (59, .bool (a0.f0 == 6))]) (by kernel_rfl) ?_
              refine QP.next ?_
              refine WP.pick [1, 3, 4, 5, 19, 59] ?_
              refine WP.cond (b := (a0.f0 == 6)) (by kernel_rfl) (fun hc => ?_) (fun hc => ?_)
              · replace hc := eq_of_beq hc
                rw [if_pos hc] at h
                have hc245 := hc
                clear hc
                rw [Option.bind_eq_some_iff] at h
                obtain ⟨os246, h, hk247⟩ := h
                refine WP.cut (fun L' G' Γ' => ∃ s246 : Bool, s246 = os246 ∧ L' = [(2, .bool s246)] ∧ G = G' ∧ Γ = Γ') ?_ ?_
                · clear hk247
                  refine WP.region ?_
                  refine WL.pure 0 2 [1, 5, 63] (L' := [(1, .pointer (some ⟨b1, 0, none⟩)), (5, .bool ((a0.f3.length : Int) == 0)), (63, .bool ((a0.f2.length : Int) == 0))]) (by kernel_rfl) (by decide) ?_
                  refine WL.split 63 (b := ((a0.f2.length : Int) == 0)) (by kernel_rfl) (fun hc => ?_) (fun hc => ?_)
                  · replace hc := eq_of_beq hc
                    rw [if_pos hc] at h
                    have hc248 := hc
                    clear hc
                    refine WL.pure 2 5 [1, 66] (L' := [(1, .pointer (some ⟨b1, 0, none⟩)), (66, .bool ((a0.f3.length : Int) == 0))]) (by kernel_rfl) (by decide) ?_
                    refine WL.split 66 (b := ((a0.f3.length : Int) == 0)) (by kernel_rfl) (fun hc => ?_) (fun hc => ?_)
                    · replace hc := eq_of_beq hc
                      rw [if_pos hc] at h
                      have hc249 := hc
                      clear hc
                      refine WL.pure 5 6 [1, 66, 67] (L' := [(1, .pointer (some ⟨b1, 0, none⟩)), (66, .bool true), (67, .pointer (some ⟨b1, 1, none⟩))]) (by kernel_rfl) (by decide) ?_
                      refine WL.tell (op := .load 3 (.tmp 67)) (ty := 3) (d := some 68) (g := some (4, true)) (by kernel_rfl) (by kernel_rfl) (by kernel_rfl) (Tells.load_box (i := 0) (b := b1) (o := 1) (agg := false) (by rfl) ag3 (by kernel_rfl) (fun _ => rfl) (Nat.le_of_ble_eq_true rfl) (v := .int .i64 a0.f1) (by kernel_rfl)) ?_
                      refine WL.pure 7 10 [1, 71] (L' := [(1, .pointer (some ⟨b1, 0, none⟩)), (71, .bool (decide (a0.f1 ≥ 0)))]) (by kernel_rfl) (by decide) ?_
                      refine WL.split 71 (b := decide (a0.f1 ≥ 0)) (by kernel_rfl) (fun hc => ?_) (fun hc => ?_)
                      · replace hc := of_decide_eq_true hc
                        rw [if_pos hc] at h
                        have hc250 := hc
                        clear hc
                        refine WL.pure 10 11 [71, 72] (L' := [(71, .bool true), (72, .pointer (some ⟨b1, 1, none⟩))]) (by kernel_rfl) (by decide) ?_
                        refine WL.tell (op := .load 3 (.tmp 72)) (ty := 3) (d := some 73) (g := some (9, true)) (by kernel_rfl) (by kernel_rfl) (by kernel_rfl) (Tells.load_box (i := 0) (b := b1) (o := 1) (agg := false) (by rfl) ag3 (by kernel_rfl) (fun _ => rfl) (Nat.le_of_ble_eq_true rfl) (v := .int .i64 a0.f1) (by kernel_rfl)) ?_
                        refine WL.rest 12 [2] (L' := [(2, .bool (decide (a0.f1 ≤ 1099511627776)))]) (by kernel_rfl) ?_
                        refine QP.dropAt 0 ?_
                        refine QP.pick [2] ?_
                        exact QP.meet ⟨_, Option.some.inj h, rfl, rfl, rfl⟩
                      · replace hc := of_decide_eq_false hc
                        rw [if_neg hc] at h
                        have hc250 := hc
                        clear hc
                        refine WL.rest 10 [2] (L' := [(2, .bool false)]) (by kernel_rfl) ?_
                        refine QP.dropAt 0 ?_
                        refine QP.pick [2] ?_
                        exact QP.meet ⟨_, Option.some.inj h, rfl, rfl, rfl⟩
                    · replace hc := ne_of_beq_false hc
                      rw [if_neg hc] at h
                      have hc249 := hc
                      clear hc
                      refine WL.rest 5 [2] (L' := [(2, .bool false)]) (by kernel_rfl) ?_
                      refine QP.dropAt 0 ?_
                      refine QP.pick [2] ?_
                      exact QP.meet ⟨_, Option.some.inj h, rfl, rfl, rfl⟩
                  · replace hc := ne_of_beq_false hc
                    rw [if_neg hc] at h
                    have hc248 := hc
                    clear hc
                    refine WL.rest 2 [2] (L' := [(2, .bool false)]) (by kernel_rfl) ?_
                    refine QP.dropAt 0 ?_
                    refine QP.pick [2] ?_
                    exact QP.meet ⟨_, Option.some.inj h, rfl, rfl, rfl⟩
                · rintro _ _ _ ⟨s246, rfl, rfl, rfl, rfl⟩
                  clear h
                  replace h := hk247
                  refine WP.ret ?_
                  refine QP.blockR ?_
                  refine QP.thenR ?_
                  obtain rfl := Option.some.inj h
                  exact QP.returned [2] [.bool s246] _ (by kernel_rfl) (by kernel_rfl) (by kernel_rfl) (fun W hI => ⟨_, _, _, rfl, ⟨rfl, rfl, rfl⟩, hI⟩)
              · replace hc := ne_of_beq_false hc
                rw [if_neg hc] at h
                have hc245 := hc
                clear hc
                refine WP.seqP [1, 3, 4, 19, 76] (L' := [(1, .pointer (some ⟨b1, 0, none⟩)), (3, .bool (a0.f1 == 0)), (4, .bool ((a0.f2.length : Int) == 0)), (19, .int .i64 a0.f0), (76, .bool (a0.f0 == 9))]) (by kernel_rfl) ?_
                refine WP.cond (b := (a0.f0 == 9)) (by kernel_rfl) (fun hc => ?_) (fun hc => ?_)
                · replace hc := eq_of_beq hc
                  rw [if_pos hc] at h
                  have hc251 := hc
                  clear hc
                  refine WP.seqR ?_
                  refine WL.pure 0 1 [1, 3, 4, 78] (L' := [(1, .pointer (some ⟨b1, 0, none⟩)), (3, .bool (a0.f1 == 0)), (4, .bool ((a0.f2.length : Int) == 0)), (78, .pointer (some ⟨b1, 3, none⟩))]) (by kernel_rfl) (by decide) ?_
                  refine WL.tell (op := .load 23 (.tmp 78)) (ty := 23) (d := some 79) (g := none) (by kernel_rfl) (by kernel_rfl) (by kernel_rfl) (Tells.load_box (i := 0) (b := b1) (o := 3) (agg := false) (by rfl) ag23 (by kernel_rfl) (fun _ => rfl) (Nat.le_of_ble_eq_true rfl) (v := .slice Aa0_f3 a0.f3.length ca0_f3) (by kernel_rfl)) ?_
                  refine WL.restQ 2 [1, 3, 4, 81] (L' := [(1, .pointer (some ⟨b1, 0, none⟩)), (3, .bool (a0.f1 == 0)), (4, .bool ((a0.f2.length : Int) == 0)), (81, .bool ((a0.f3.length : Int) != 1))]) (by kernel_rfl) ?_
                  refine WP.cond (b := ((a0.f3.length : Int) != 1)) (by kernel_rfl) (fun hc => ?_) (fun hc => ?_)
                  · replace hc := (bne_iff_ne.1 hc)
                    rw [if_pos hc] at h
                    have hc252 := hc
                    clear hc
                    refine WP.seqP [2] (L' := [(2, .bool false)]) (by kernel_rfl) ?_
                    refine WP.dropAt 0 ?_
                    refine WP.ret ?_
                    refine QP.blockR ?_
                    refine QP.thenR ?_
                    obtain rfl := Option.some.inj h
                    exact QP.returned [2] [.bool false] _ (by kernel_rfl) (by kernel_rfl) (by kernel_rfl) (fun W hI => ⟨_, _, _, rfl, ⟨rfl, rfl, rfl⟩, hI⟩)
                  · replace hc := (not_not_intro (bne_eq_false_iff_eq.1 hc))
                    rw [if_neg hc] at h
                    have hc252 := hc
                    clear hc
                    refine WP.skip ?_
                    refine QP.blockN ?_
                    refine QP.next ?_
                    refine WP.pick [1, 3, 4] ?_
                    refine WP.seq ?_
                    refine WP.seqP [1, 3, 4, 6] (L' := [(1, .pointer (some ⟨b1, 0, none⟩)), (3, .bool (a0.f1 == 0)), (4, .bool ((a0.f2.length : Int) == 0)), (6, .int .i64 0)]) (by kernel_rfl) ?_
                    rw [Option.bind_eq_some_iff] at h
                    obtain ⟨os253, h, hk254⟩ := h
                    refine WP.cutQ (fun L' G' Γ' => ∃ s253 : Unit, Sum.inr s253 = os253 ∧ L' = [(3, .bool (a0.f1 == 0)), (4, .bool ((a0.f2.length : Int) == 0))] ∧ G = G' ∧ Γ = Γ') ?_ ?_
                    · skip
                      refine WP.block ?_
                      refine WP.pick [1, 3, 4, 6] ?_
                      refine WP.loopF (fun kn256 L' G' Γ' => ∃ (y255 : Int), grapevineref14_form_l9 a0 (grapevineref14_form kf) kn256 y255 = some os253 ∧ L' = [(1, .pointer (some ⟨b1, 0, none⟩)), (3, .bool (a0.f1 == 0)), (4, .bool ((a0.f2.length : Int) == 0)), (6, .int .i64 y255)] ∧ G = G' ∧ [(b1, .cells #[.int .i64 a0.f0, .int .i64 a0.f1, .slice Aa0_f2 a0.f2.length ca0_f2, .slice Aa0_f3 a0.f3.length ca0_f3] 25 (0, 0))] :: Γ = Γ') ?_ kf ⟨0, h, rfl, rfl, rfl⟩
                      clear h
                      rintro kn257 _ _ _ ⟨y255, h, rfl, rfl, rfl⟩
                      cases kn257 with
                      | zero => exact absurd h (by simp [grapevineref14_form_l9])
                      | succ kn257 =>
                        simp only [grapevineref14_form_l9] at h
                        refine WP.seq ?_
                        refine WP.seqR ?_
                        refine WL.pure 0 2 [1, 3, 4, 6, 89, 90] (L' := [(1, .pointer (some ⟨b1, 0, none⟩)), (3, .bool (a0.f1 == 0)), (4, .bool ((a0.f2.length : Int) == 0)), (6, .int .i64 y255), (89, .int .i64 y255), (90, .pointer (some ⟨b1, 3, none⟩))]) (by kernel_rfl) (by decide) ?_
                        refine WL.tell (op := .load 23 (.tmp 90)) (ty := 23) (d := some 91) (g := none) (by kernel_rfl) (by kernel_rfl) (by kernel_rfl) (Tells.load_box (i := 0) (b := b1) (o := 3) (agg := false) (by rfl) ag23 (by kernel_rfl) (fun _ => rfl) (Nat.le_of_ble_eq_true rfl) (v := .slice Aa0_f3 a0.f3.length ca0_f3) (by kernel_rfl)) ?_
                        refine WL.restQ 3 [1, 3, 4, 6, 93] (L' := [(1, .pointer (some ⟨b1, 0, none⟩)), (3, .bool (a0.f1 == 0)), (4, .bool ((a0.f2.length : Int) == 0)), (6, .int .i64 y255), (93, .bool (decide (y255 < (a0.f3.length : Int))))]) (by kernel_rfl) ?_
                        refine WP.cond (b := decide (y255 < (a0.f3.length : Int))) (by kernel_rfl) (fun hc => ?_) (fun hc => ?_)
                        · replace hc := of_decide_eq_true hc
                          rw [if_pos hc] at h
                          have hc258 := hc
                          clear hc
                          refine WP.skip ?_
                          refine QP.next ?_
                          refine WP.pick [1, 3, 4, 6] ?_
                          refine WP.seq ?_
                          refine WP.block ?_
                          refine WP.seqR ?_
                          refine WL.pure 0 1 [1, 3, 4, 6, 96] (L' := [(1, .pointer (some ⟨b1, 0, none⟩)), (3, .bool (a0.f1 == 0)), (4, .bool ((a0.f2.length : Int) == 0)), (6, .int .i64 y255), (96, .pointer (some ⟨b1, 3, none⟩))]) (by kernel_rfl) (by decide) ?_
                          refine WL.tell (op := .load 23 (.tmp 96)) (ty := 23) (d := some 97) (g := none) (by kernel_rfl) (by kernel_rfl) (by kernel_rfl) (Tells.load_box (i := 0) (b := b1) (o := 3) (agg := false) (by rfl) ag23 (by kernel_rfl) (fun _ => rfl) (Nat.le_of_ble_eq_true rfl) (v := .slice Aa0_f3 a0.f3.length ca0_f3) (by kernel_rfl)) ?_
                          refine WL.pure 2 3 [1, 3, 4, 6, 97, 98] (L' := [(1, .pointer (some ⟨b1, 0, none⟩)), (3, .bool (a0.f1 == 0)), (4, .bool ((a0.f2.length : Int) == 0)), (6, .int .i64 y255), (97, .slice Aa0_f3 a0.f3.length ca0_f3), (98, .int .i64 y255)]) (by kernel_rfl) (by decide) ?_
                          by_cases hb259 : 0 ≤ y255 ∧ y255 < (a0.f3.length : Int)
                          case neg => rw [if_neg hb259] at h; cases h
                          rw [if_pos hb259] at h
                          refine WL.tell (op := .indexAddr 23 (.tmp 97) (.tmp 98)) (ty := 0) (d := some 99) (g := none) (by kernel_rfl) (by kernel_rfl) (by kernel_rfl) (Tells.indexAddr (A := Aa0_f3) (n := a0.f3.length) (c := ca0_f3) (k := .i64) (j := y255) (by kernel_rfl) (by kernel_rfl) (Ha0_f3.isSome hb259.1 hb259.2) hb259.1 hb259.2 sl23) ?_
                          refine WL.tellE (op := .load 25 (.tmp 99)) (ty := 25) (d := some 100) (g := none) (by kernel_rfl) (by kernel_rfl) (by kernel_rfl) (Ha0_f3.load (agg := true) hb259.1 hb259.2 z25 ag25 (fun h => by cases h) (by kernel_rfl)) ?_
                          rintro _ hrel
                          obtain ⟨_, _, rfl, rfl, ⟨_, _, rfl, rfl, ⟨_, _, rfl, ⟨Ae260, ce260, rfl, He260⟩, ⟨Ae261, ce261, rfl, He261⟩⟩⟩⟩ := k25_out hrel
                          replace He260 : Rd kStr G Ae260 ce260 ((a0.f3.getD y255.toNat z25).f2) := He260
                          replace He261 : Rd k25 G Ae261 ce261 ((a0.f3.getD y255.toNat z25).f3) := He261
                          rw [Option.bind_eq_some_iff] at h
                          obtain ⟨t262, ht263, h⟩ := h
                          refine WL.op (op := .call { callee := (.value (.func 53)), args := #[(.tmp 100)], argTypes := #[25] }) (ty := 4) (d := some 101) (g := none) (by kernel_rfl) (by kernel_rfl) (by kernel_rfl) (Does.call (f := 53) (args := [.agg #[.int .i64 ((a0.f3.getD y255.toNat z25).f0), .int .i64 ((a0.f3.getD y255.toNat z25).f1), .slice Ae260 ((a0.f3.getD y255.toNat z25).f2).length ce260, .slice Ae261 ((a0.f3.getD y255.toNat z25).f3).length ce261]]) (by kernel_rfl) (fun W hI => (ih HT (a0.f3.getD y255.toNat z25) Ae260 ce260 He260 Ae261 ce261 He261 t262 ht263 hI))) ?_
                          rintro _ _ _ ⟨rfl, rfl, rfl⟩
                          refine WL.restQ 6 [1, 3, 4, 6, 102] (L' := [(1, .pointer (some ⟨b1, 0, none⟩)), (3, .bool (a0.f1 == 0)), (4, .bool ((a0.f2.length : Int) == 0)), (6, .int .i64 y255), (102, .bool (!t262))]) (by kernel_rfl) ?_
                          refine WP.cond (b := (!t262)) (by kernel_rfl) (fun hc => ?_) (fun hc => ?_)
                          · replace hc := hc
                            rw [if_pos hc] at h
                            have hc266 := hc
                            clear hc
                            refine WP.seqP [2] (L' := [(2, .bool false)]) (by kernel_rfl) ?_
                            refine WP.dropAt 0 ?_
                            refine WP.ret ?_
                            refine QP.blockR ?_
                            refine QP.thenR ?_
                            refine QP.thenR ?_
                            refine QP.blockR ?_
                            refine QP.thenR ?_
                            refine QP.thenR ?_
                            obtain rfl := Option.some.inj h
                            obtain rfl := Option.some.inj (show some _ = some _ from hk254)
                            exact QP.returned [2] [.bool false] _ (by kernel_rfl) (by kernel_rfl) (by kernel_rfl) (fun W hI => ⟨_, _, _, rfl, ⟨rfl, rfl, rfl⟩, hI⟩)
                          · replace hc := (Bool.eq_false_iff.1 hc)
                            rw [if_neg hc] at h
                            have hc266 := hc
                            clear hc
                            refine WP.skip ?_
                            refine QP.blockN ?_
                            refine QP.next ?_
                            refine WP.pick [1, 3, 4, 6] ?_
                            refine WP.regionP [1, 3, 4, 6] (L' := [(1, .pointer (some ⟨b1, 0, none⟩)), (3, .bool (a0.f1 == 0)), (4, .bool ((a0.f2.length : Int) == 0)), (6, .int .i64 (IntKind.i64.wrap (y255 + 1)))]) (by kernel_rfl) ?_
                            refine QP.pick [1, 3, 4, 6] ?_
                            exact QP.meet ⟨kn257, Nat.lt_succ_self _, (IntKind.i64.wrap (y255 + 1)), h, rfl, rfl, rfl⟩
                        · replace hc := of_decide_eq_false hc
                          rw [if_neg hc] at h
                          have hc258 := hc
                          clear hc
                          refine WP.exit ?_
                          refine QP.thenE ?_
                          refine QP.thenE ?_
                          refine QP.blockE ?_
                          refine QP.dropAt 0 ?_
                          refine QP.pick [3, 4] ?_
                          exact QP.meet ⟨_, Option.some.inj h, rfl, rfl, rfl⟩
                    · rintro _ _ _ ⟨s253, rfl, rfl, rfl, rfl⟩
                      clear h
                      replace h := hk254
                      dsimp only at h
                      refine QP.next ?_
                      refine WP.pick [3, 4] ?_
                      rw [Option.bind_eq_some_iff] at h
                      obtain ⟨os267, h, hk268⟩ := h
                      refine WP.cut (fun L' G' Γ' => ∃ s267 : Bool, s267 = os267 ∧ L' = [(2, .bool s267)] ∧ G = G' ∧ Γ = Γ') ?_ ?_
                      · clear hk268
                        refine WP.region ?_
                        refine WL.pure 0 2 [4, 104] (L' := [(4, .bool ((a0.f2.length : Int) == 0)), (104, .bool (a0.f1 == 0))]) (by kernel_rfl) (by decide) ?_
                        refine WL.split 104 (b := (a0.f1 == 0)) (by kernel_rfl) (fun hc => ?_) (fun hc => ?_)
                        · replace hc := eq_of_beq hc
                          rw [if_pos hc] at h
                          have hc269 := hc
                          clear hc
                          refine WL.rest 2 [2] (L' := [(2, .bool ((a0.f2.length : Int) == 0))]) (by kernel_rfl) ?_
                          refine QP.pick [2] ?_
                          exact QP.meet ⟨_, Option.some.inj h, rfl, rfl, rfl⟩
                        · replace hc := ne_of_beq_false hc
                          rw [if_neg hc] at h
                          have hc269 := hc
                          clear hc
                          refine WL.rest 2 [2] (L' := [(2, .bool false)]) (by kernel_rfl) ?_
                          refine QP.pick [2] ?_
                          exact QP.meet ⟨_, Option.some.inj h, rfl, rfl, rfl⟩
                      · rintro _ _ _ ⟨s267, rfl, rfl, rfl, rfl⟩
                        clear h
                        replace h := hk268
                        refine WP.ret ?_
                        obtain rfl := Option.some.inj h
                        exact QP.returned [2] [.bool s267] _ (by kernel_rfl) (by kernel_rfl) (by kernel_rfl) (fun W hI => ⟨_, _, _, rfl, ⟨rfl, rfl, rfl⟩, hI⟩)
                · replace hc := ne_of_beq_false hc
                  rw [if_neg hc] at h
                  have hc251 := hc
                  clear hc
                  refine WP.seq ?_
                  refine WP.seqP [1, 3, 4, 19, 82] (L' := [(1, .pointer (some ⟨b1, 0, none⟩)), (3, .bool (a0.f1 == 0)), (4, .bool ((a0.f2.length : Int) == 0)), (19, .int .i64 a0.f0), (82, .bool (a0.f0 == 7))]) (by kernel_rfl) ?_
                  refine WP.cond (b := (a0.f0 == 7)) (by kernel_rfl) (fun hc => ?_) (fun hc => ?_)
                  · replace hc := eq_of_beq hc
                    rw [if_pos hc] at h
                    have hc270 := hc
                    clear hc
                    refine WP.skip ?_
                    refine QP.next ?_
                    refine WP.pick [1, 3, 4, 82] ?_
                    refine WP.cond (b := (a0.f0 == 7)) (by kernel_rfl) (fun hc => ?_) (fun hc => ?_)
                    · replace hc := eq_of_beq hc
                      rw [if_pos hc] at h
                      have hc271 := hc
                      clear hc
                      refine WP.seqR ?_
                      refine WL.pure 0 1 [1, 3, 4, 85] (L' := [(1, .pointer (some ⟨b1, 0, none⟩)), (3, .bool (a0.f1 == 0)), (4, .bool ((a0.f2.length : Int) == 0)), (85, .pointer (some ⟨b1, 3, none⟩))]) (by kernel_rfl) (by decide) ?_
                      refine WL.tell (op := .load 23 (.tmp 85)) (ty := 23) (d := some 86) (g := none) (by kernel_rfl) (by kernel_rfl) (by kernel_rfl) (Tells.load_box (i := 0) (b := b1) (o := 3) (agg := false) (by rfl) ag23 (by kernel_rfl) (fun _ => rfl) (Nat.le_of_ble_eq_true rfl) (v := .slice Aa0_f3 a0.f3.length ca0_f3) (by kernel_rfl)) ?_
                      refine WL.restQ 2 [1, 3, 4, 88] (L' := [(1, .pointer (some ⟨b1, 0, none⟩)), (3, .bool (a0.f1 == 0)), (4, .bool ((a0.f2.length : Int) == 0)), (88, .bool (decide ((a0.f3.length : Int) < 2)))]) (by kernel_rfl) ?_
                      refine WP.cond (b := decide ((a0.f3.length : Int) < 2)) (by kernel_rfl) (fun hc => ?_) (fun hc => ?_)
                      · replace hc := of_decide_eq_true hc
                        rw [if_pos hc] at h
                        have hc272 := hc
                        clear hc
                        refine WP.seqP [2] (L' := [(2, .bool false)]) (by kernel_rfl) ?_
                        refine WP.dropAt 0 ?_
                        refine WP.ret ?_
                        refine QP.blockR ?_
                        refine QP.thenR ?_
                        obtain rfl := Option.some.inj h
                        exact QP.returned [2] [.bool false] _ (by kernel_rfl) (by kernel_rfl) (by kernel_rfl) (fun W hI => ⟨_, _, _, rfl, ⟨rfl, rfl, rfl⟩, hI⟩)
                      · replace hc := of_decide_eq_false hc
                        rw [if_neg hc] at h
                        have hc272 := hc
                        clear hc
                        refine WP.skip ?_
                        refine QP.blockN ?_
                        refine QP.next ?_
                        refine WP.pick [1, 3, 4] ?_
                        refine WP.seq ?_
                        refine WP.seqP [1, 3, 4, 6] (L' := [(1, .pointer (some ⟨b1, 0, none⟩)), (3, .bool (a0.f1 == 0)), (4, .bool ((a0.f2.length : Int) == 0)), (6, .int .i64 0)]) (by kernel_rfl) ?_
                        rw [Option.bind_eq_some_iff] at h
                        obtain ⟨os273, h, hk274⟩ := h
                        refine WP.cutQ (fun L' G' Γ' => ∃ s273 : Unit, Sum.inr s273 = os273 ∧ L' = [(3, .bool (a0.f1 == 0)), (4, .bool ((a0.f2.length : Int) == 0))] ∧ G = G' ∧ Γ = Γ') ?_ ?_
                        · skip
                          refine WP.block ?_
                          refine WP.pick [1, 3, 4, 6] ?_
                          refine WP.loopF (fun kn276 L' G' Γ' => ∃ (y275 : Int), grapevineref14_form_l10 a0 (grapevineref14_form kf) kn276 y275 = some os273 ∧ L' = [(1, .pointer (some ⟨b1, 0, none⟩)), (3, .bool (a0.f1 == 0)), (4, .bool ((a0.f2.length : Int) == 0)), (6, .int .i64 y275)] ∧ G = G' ∧ [(b1, .cells #[.int .i64 a0.f0, .int .i64 a0.f1, .slice Aa0_f2 a0.f2.length ca0_f2, .slice Aa0_f3 a0.f3.length ca0_f3] 25 (0, 0))] :: Γ = Γ') ?_ kf ⟨0, h, rfl, rfl, rfl⟩
                          clear h
                          rintro kn277 _ _ _ ⟨y275, h, rfl, rfl, rfl⟩
                          cases kn277 with
                          | zero => exact absurd h (by simp [grapevineref14_form_l10])
                          | succ kn277 =>
                            simp only [grapevineref14_form_l10] at h
                            refine WP.seq ?_
                            refine WP.seqR ?_
                            refine WL.pure 0 2 [1, 3, 4, 6, 89, 90] (L' := [(1, .pointer (some ⟨b1, 0, none⟩)), (3, .bool (a0.f1 == 0)), (4, .bool ((a0.f2.length : Int) == 0)), (6, .int .i64 y275), (89, .int .i64 y275), (90, .pointer (some ⟨b1, 3, none⟩))]) (by kernel_rfl) (by decide) ?_
                            refine WL.tell (op := .load 23 (.tmp 90)) (ty := 23) (d := some 91) (g := none) (by kernel_rfl) (by kernel_rfl) (by kernel_rfl) (Tells.load_box (i := 0) (b := b1) (o := 3) (agg := false) (by rfl) ag23 (by kernel_rfl) (fun _ => rfl) (Nat.le_of_ble_eq_true rfl) (v := .slice Aa0_f3 a0.f3.length ca0_f3) (by kernel_rfl)) ?_
                            refine WL.restQ 3 [1, 3, 4, 6, 93] (L' := [(1, .pointer (some ⟨b1, 0, none⟩)), (3, .bool (a0.f1 == 0)), (4, .bool ((a0.f2.length : Int) == 0)), (6, .int .i64 y275), (93, .bool (decide (y275 < (a0.f3.length : Int))))]) (by kernel_rfl) ?_
                            refine WP.cond (b := decide (y275 < (a0.f3.length : Int))) (by kernel_rfl) (fun hc => ?_) (fun hc => ?_)
                            · replace hc := of_decide_eq_true hc
                              rw [if_pos hc] at h
                              have hc278 := hc
                              clear hc
                              refine WP.skip ?_
                              refine QP.next ?_
                              refine WP.pick [1, 3, 4, 6] ?_
                              refine WP.seq ?_
                              refine WP.block ?_
                              refine WP.seqR ?_
                              refine WL.pure 0 1 [1, 3, 4, 6, 96] (L' := [(1, .pointer (some ⟨b1, 0, none⟩)), (3, .bool (a0.f1 == 0)), (4, .bool ((a0.f2.length : Int) == 0)), (6, .int .i64 y275), (96, .pointer (some ⟨b1, 3, none⟩))]) (by kernel_rfl) (by decide) ?_
                              refine WL.tell (op := .load 23 (.tmp 96)) (ty := 23) (d := some 97) (g := none) (by kernel_rfl) (by kernel_rfl) (by kernel_rfl) (Tells.load_box (i := 0) (b := b1) (o := 3) (agg := false) (by rfl) ag23 (by kernel_rfl) (fun _ => rfl) (Nat.le_of_ble_eq_true rfl) (v := .slice Aa0_f3 a0.f3.length ca0_f3) (by kernel_rfl)) ?_
                              refine WL.pure 2 3 [1, 3, 4, 6, 97, 98] (L' := [(1, .pointer (some ⟨b1, 0, none⟩)), (3, .bool (a0.f1 == 0)), (4, .bool ((a0.f2.length : Int) == 0)), (6, .int .i64 y275), (97, .slice Aa0_f3 a0.f3.length ca0_f3), (98, .int .i64 y275)]) (by kernel_rfl) (by decide) ?_
                              by_cases hb279 : 0 ≤ y275 ∧ y275 < (a0.f3.length : Int)
                              case neg => rw [if_neg hb279] at h; cases h
                              rw [if_pos hb279] at h
                              refine WL.tell (op := .indexAddr 23 (.tmp 97) (.tmp 98)) (ty := 0) (d := some 99) (g := none) (by kernel_rfl) (by kernel_rfl) (by kernel_rfl) (Tells.indexAddr (A := Aa0_f3) (n := a0.f3.length) (c := ca0_f3) (k := .i64) (j := y275) (by kernel_rfl) (by kernel_rfl) (Ha0_f3.isSome hb279.1 hb279.2) hb279.1 hb279.2 sl23) ?_
                              refine WL.tellE (op := .load 25 (.tmp 99)) (ty := 25) (d := some 100) (g := none) (by kernel_rfl) (by kernel_rfl) (by kernel_rfl) (Ha0_f3.load (agg := true) hb279.1 hb279.2 z25 ag25 (fun h => by cases h) (by kernel_rfl)) ?_
                              rintro _ hrel
                              obtain ⟨_, _, rfl, rfl, ⟨_, _, rfl, rfl, ⟨_, _, rfl, ⟨Ae280, ce280, rfl, He280⟩, ⟨Ae281, ce281, rfl, He281⟩⟩⟩⟩ := k25_out hrel
                              replace He280 : Rd kStr G Ae280 ce280 ((a0.f3.getD y275.toNat z25).f2) := He280
                              replace He281 : Rd k25 G Ae281 ce281 ((a0.f3.getD y275.toNat z25).f3) := He281
                              rw [Option.bind_eq_some_iff] at h
                              obtain ⟨t282, ht283, h⟩ := h
                              refine WL.op (op := .call { callee := (.value (.func 53)), args := #[(.tmp 100)], argTypes := #[25] }) (ty := 4) (d := some 101) (g := none) (by kernel_rfl) (by kernel_rfl) (by kernel_rfl) (Does.call (f := 53) (args := [.agg #[.int .i64 ((a0.f3.getD y275.toNat z25).f0), .int .i64 ((a0.f3.getD y275.toNat z25).f1), .slice Ae280 ((a0.f3.getD y275.toNat z25).f2).length ce280, .slice Ae281 ((a0.f3.getD y275.toNat z25).f3).length ce281]]) (by kernel_rfl) (fun W hI => (ih HT (a0.f3.getD y275.toNat z25) Ae280 ce280 He280 Ae281 ce281 He281 t282 ht283 hI))) ?_
                              rintro _ _ _ ⟨rfl, rfl, rfl⟩
                              refine WL.restQ 6 [1, 3, 4, 6, 102] (L' := [(1, .pointer (some ⟨b1, 0, none⟩)), (3, .bool (a0.f1 == 0)), (4, .bool ((a0.f2.length : Int) == 0)), (6, .int .i64 y275), (102, .bool (!t282))]) (by kernel_rfl) ?_
                              refine WP.cond (b := (!t282)) (by kernel_rfl) (fun hc => ?_) (fun hc => ?_)
                              · replace hc := hc
                                rw [if_pos hc] at h
                                have hc286 := hc
                                clear hc
                                refine WP.seqP [2] (L' := [(2, .bool false)]) (by kernel_rfl) ?_
                                refine WP.dropAt 0 ?_
                                refine WP.ret ?_
                                refine QP.blockR ?_
                                refine QP.thenR ?_
                                refine QP.thenR ?_
                                refine QP.blockR ?_
                                refine QP.thenR ?_
                                refine QP.thenR ?_
                                obtain rfl := Option.some.inj h
                                obtain rfl := Option.some.inj (show some _ = some _ from hk274)
                                exact QP.returned [2] [.bool false] _ (by kernel_rfl) (by kernel_rfl) (by kernel_rfl) (fun W hI => ⟨_, _, _, rfl, ⟨rfl, rfl, rfl⟩, hI⟩)
                              · replace hc := (Bool.eq_false_iff.1 hc)
                                rw [if_neg hc] at h
                                have hc286 := hc
                                clear hc
                                refine WP.skip ?_
                                refine QP.blockN ?_
                                refine QP.next ?_
                                refine WP.pick [1, 3, 4, 6] ?_
                                refine WP.regionP [1, 3, 4, 6] (L' := [(1, .pointer (some ⟨b1, 0, none⟩)), (3, .bool (a0.f1 == 0)), (4, .bool ((a0.f2.length : Int) == 0)), (6, .int .i64 (IntKind.i64.wrap (y275 + 1)))]) (by kernel_rfl) ?_
                                refine QP.pick [1, 3, 4, 6] ?_
                                exact QP.meet ⟨kn277, Nat.lt_succ_self _, (IntKind.i64.wrap (y275 + 1)), h, rfl, rfl, rfl⟩
                            · replace hc := of_decide_eq_false hc
                              rw [if_neg hc] at h
                              have hc278 := hc
                              clear hc
                              refine WP.exit ?_
                              refine QP.thenE ?_
                              refine QP.thenE ?_
                              refine QP.blockE ?_
                              refine QP.dropAt 0 ?_
                              refine QP.pick [3, 4] ?_
                              exact QP.meet ⟨_, Option.some.inj h, rfl, rfl, rfl⟩
                        · rintro _ _ _ ⟨s273, rfl, rfl, rfl, rfl⟩
                          clear h
                          replace h := hk274
                          dsimp only at h
                          refine QP.next ?_
                          refine WP.pick [3, 4] ?_
                          rw [Option.bind_eq_some_iff] at h
                          obtain ⟨os287, h, hk288⟩ := h
                          refine WP.cut (fun L' G' Γ' => ∃ s287 : Bool, s287 = os287 ∧ L' = [(2, .bool s287)] ∧ G = G' ∧ Γ = Γ') ?_ ?_
                          · clear hk288
                            refine WP.region ?_
                            refine WL.pure 0 2 [4, 104] (L' := [(4, .bool ((a0.f2.length : Int) == 0)), (104, .bool (a0.f1 == 0))]) (by kernel_rfl) (by decide) ?_
                            refine WL.split 104 (b := (a0.f1 == 0)) (by kernel_rfl) (fun hc => ?_) (fun hc => ?_)
                            · replace hc := eq_of_beq hc
                              rw [if_pos hc] at h
                              have hc289 := hc
                              clear hc
                              refine WL.rest 2 [2] (L' := [(2, .bool ((a0.f2.length : Int) == 0))]) (by kernel_rfl) ?_
                              refine QP.pick [2] ?_
                              exact QP.meet ⟨_, Option.some.inj h, rfl, rfl, rfl⟩
                            · replace hc := ne_of_beq_false hc
                              rw [if_neg hc] at h
                              have hc289 := hc
                              clear hc
                              refine WL.rest 2 [2] (L' := [(2, .bool false)]) (by kernel_rfl) ?_
                              refine QP.pick [2] ?_
                              exact QP.meet ⟨_, Option.some.inj h, rfl, rfl, rfl⟩
                          · rintro _ _ _ ⟨s287, rfl, rfl, rfl, rfl⟩
                            clear h
                            replace h := hk288
                            refine WP.ret ?_
                            obtain rfl := Option.some.inj h
                            exact QP.returned [2] [.bool s287] _ (by kernel_rfl) (by kernel_rfl) (by kernel_rfl) (fun W hI => ⟨_, _, _, rfl, ⟨rfl, rfl, rfl⟩, hI⟩)
                    · replace hc := ne_of_beq_false hc
                      rw [if_neg hc] at h
                      have hc271 := hc
                      clear hc
                      refine WP.seqP [2] (L' := [(2, .bool false)]) (by kernel_rfl) ?_
                      refine WP.dropAt 0 ?_
                      refine WP.ret ?_
                      refine QP.blockR ?_
                      refine QP.thenR ?_
                      obtain rfl := Option.some.inj h
                      exact QP.returned [2] [.bool false] _ (by kernel_rfl) (by kernel_rfl) (by kernel_rfl) (fun W hI => ⟨_, _, _, rfl, ⟨rfl, rfl, rfl⟩, hI⟩)
                  · replace hc := ne_of_beq_false hc
                    rw [if_neg hc] at h
                    have hc270 := hc
                    clear hc
                    refine WP.regionP [1, 3, 4, 82] (L' := [(1, .pointer (some ⟨b1, 0, none⟩)), (3, .bool (a0.f1 == 0)), (4, .bool ((a0.f2.length : Int) == 0)), (82, .bool (a0.f0 == 8))]) (by kernel_rfl) ?_
                    refine QP.next ?_
                    refine WP.pick [1, 3, 4, 82] ?_
                    refine WP.cond (b := (a0.f0 == 8)) (by kernel_rfl) (fun hc => ?_) (fun hc => ?_)
                    · replace hc := eq_of_beq hc
                      rw [if_pos hc] at h
                      have hc290 := hc
                      clear hc
                      refine WP.seqR ?_
                      refine WL.pure 0 1 [1, 3, 4, 85] (L' := [(1, .pointer (some ⟨b1, 0, none⟩)), (3, .bool (a0.f1 == 0)), (4, .bool ((a0.f2.length : Int) == 0)), (85, .pointer (some ⟨b1, 3, none⟩))]) (by kernel_rfl) (by decide) ?_
                      refine WL.tell (op := .load 23 (.tmp 85)) (ty := 23) (d := some 86) (g := none) (by kernel_rfl) (by kernel_rfl) (by kernel_rfl) (Tells.load_box (i := 0) (b := b1) (o := 3) (agg := false) (by rfl) ag23 (by kernel_rfl) (fun _ => rfl) (Nat.le_of_ble_eq_true rfl) (v := .slice Aa0_f3 a0.f3.length ca0_f3) (by kernel_rfl)) ?_
                      refine WL.restQ 2 [1, 3, 4, 88] (L' := [(1, .pointer (some ⟨b1, 0, none⟩)), (3, .bool (a0.f1 == 0)), (4, .bool ((a0.f2.length : Int) == 0)), (88, .bool (decide ((a0.f3.length : Int) < 2)))]) (by kernel_rfl) ?_
                      refine WP.cond (b := decide ((a0.f3.length : Int) < 2)) (by kernel_rfl) (fun hc => ?_) (fun hc => ?_)
                      · replace hc := of_decide_eq_true hc
                        rw [if_pos hc] at h
                        have hc291 := hc
                        clear hc
                        refine WP.seqP [2] (L' := [(2, .bool false)]) (by kernel_rfl) ?_
                        refine WP.dropAt 0 ?_
                        refine WP.ret ?_
                        refine QP.blockR ?_
                        refine QP.thenR ?_
                        obtain rfl := Option.some.inj h
                        exact QP.returned [2] [.bool false] _ (by kernel_rfl) (by kernel_rfl) (by kernel_rfl) (fun W hI => ⟨_, _, _, rfl, ⟨rfl, rfl, rfl⟩, hI⟩)
                      · replace hc := of_decide_eq_false hc
                        rw [if_neg hc] at h
                        have hc291 := hc
                        clear hc
                        refine WP.skip ?_
                        refine QP.blockN ?_
                        refine QP.next ?_
                        refine WP.pick [1, 3, 4] ?_
                        refine WP.seq ?_
                        refine WP.seqP [1, 3, 4, 6] (L' := [(1, .pointer (some ⟨b1, 0, none⟩)), (3, .bool (a0.f1 == 0)), (4, .bool ((a0.f2.length : Int) == 0)), (6, .int .i64 0)]) (by kernel_rfl) ?_
                        rw [Option.bind_eq_some_iff] at h
                        obtain ⟨os292, h, hk293⟩ := h
                        refine WP.cutQ (fun L' G' Γ' => ∃ s292 : Unit, Sum.inr s292 = os292 ∧ L' = [(3, .bool (a0.f1 == 0)), (4, .bool ((a0.f2.length : Int) == 0))] ∧ G = G' ∧ Γ = Γ') ?_ ?_
                        · skip
                          refine WP.block ?_
                          refine WP.pick [1, 3, 4, 6] ?_
                          refine WP.loopF (fun kn295 L' G' Γ' => ∃ (y294 : Int), grapevineref14_form_l11 a0 (grapevineref14_form kf) kn295 y294 = some os292 ∧ L' = [(1, .pointer (some ⟨b1, 0, none⟩)), (3, .bool (a0.f1 == 0)), (4, .bool ((a0.f2.length : Int) == 0)), (6, .int .i64 y294)] ∧ G = G' ∧ [(b1, .cells #[.int .i64 a0.f0, .int .i64 a0.f1, .slice Aa0_f2 a0.f2.length ca0_f2, .slice Aa0_f3 a0.f3.length ca0_f3] 25 (0, 0))] :: Γ = Γ') ?_ kf ⟨0, h, rfl, rfl, rfl⟩
                          clear h
                          rintro kn296 _ _ _ ⟨y294, h, rfl, rfl, rfl⟩
                          cases kn296 with
                          | zero => exact absurd h (by simp [grapevineref14_form_l11])
                          | succ kn296 =>
                            simp only [grapevineref14_form_l11] at h
                            refine WP.seq ?_
                            refine WP.seqR ?_
                            refine WL.pure 0 2 [1, 3, 4, 6, 89, 90] (L' := [(1, .pointer (some ⟨b1, 0, none⟩)), (3, .bool (a0.f1 == 0)), (4, .bool ((a0.f2.length : Int) == 0)), (6, .int .i64 y294), (89, .int .i64 y294), (90, .pointer (some ⟨b1, 3, none⟩))]) (by kernel_rfl) (by decide) ?_
                            refine WL.tell (op := .load 23 (.tmp 90)) (ty := 23) (d := some 91) (g := none) (by kernel_rfl) (by kernel_rfl) (by kernel_rfl) (Tells.load_box (i := 0) (b := b1) (o := 3) (agg := false) (by rfl) ag23 (by kernel_rfl) (fun _ => rfl) (Nat.le_of_ble_eq_true rfl) (v := .slice Aa0_f3 a0.f3.length ca0_f3) (by kernel_rfl)) ?_
                            refine WL.restQ 3 [1, 3, 4, 6, 93] (L' := [(1, .pointer (some ⟨b1, 0, none⟩)), (3, .bool (a0.f1 == 0)), (4, .bool ((a0.f2.length : Int) == 0)), (6, .int .i64 y294), (93, .bool (decide (y294 < (a0.f3.length : Int))))]) (by kernel_rfl) ?_
                            refine WP.cond (b := decide (y294 < (a0.f3.length : Int))) (by kernel_rfl) (fun hc => ?_) (fun hc => ?_)
                            · replace hc := of_decide_eq_true hc
                              rw [if_pos hc] at h
                              have hc297 := hc
                              clear hc
                              refine WP.skip ?_
                              refine QP.next ?_
                              refine WP.pick [1, 3, 4, 6] ?_
                              refine WP.seq ?_
                              refine WP.block ?_
                              refine WP.seqR ?_
                              refine WL.pure 0 1 [1, 3, 4, 6, 96] (L' := [(1, .pointer (some ⟨b1, 0, none⟩)), (3, .bool (a0.f1 == 0)), (4, .bool ((a0.f2.length : Int) == 0)), (6, .int .i64 y294), (96, .pointer (some ⟨b1, 3, none⟩))]) (by kernel_rfl) (by decide) ?_
                              refine WL.tell (op := .load 23 (.tmp 96)) (ty := 23) (d := some 97) (g := none) (by kernel_rfl) (by kernel_rfl) (by kernel_rfl) (Tells.load_box (i := 0) (b := b1) (o := 3) (agg := false) (by rfl) ag23 (by kernel_rfl) (fun _ => rfl) (Nat.le_of_ble_eq_true rfl) (v := .slice Aa0_f3 a0.f3.length ca0_f3) (by kernel_rfl)) ?_
                              refine WL.pure 2 3 [1, 3, 4, 6, 97, 98] (L' := [(1, .pointer (some ⟨b1, 0, none⟩)), (3, .bool (a0.f1 == 0)), (4, .bool ((a0.f2.length : Int) == 0)), (6, .int .i64 y294), (97, .slice Aa0_f3 a0.f3.length ca0_f3), (98, .int .i64 y294)]) (by kernel_rfl) (by decide) ?_
                              by_cases hb298 : 0 ≤ y294 ∧ y294 < (a0.f3.length : Int)
                              case neg => rw [if_neg hb298] at h; cases h
                              rw [if_pos hb298] at h
                              refine WL.tell (op := .indexAddr 23 (.tmp 97) (.tmp 98)) (ty := 0) (d := some 99) (g := none) (by kernel_rfl) (by kernel_rfl) (by kernel_rfl) (Tells.indexAddr (A := Aa0_f3) (n := a0.f3.length) (c := ca0_f3) (k := .i64) (j := y294) (by kernel_rfl) (by kernel_rfl) (Ha0_f3.isSome hb298.1 hb298.2) hb298.1 hb298.2 sl23) ?_
                              refine WL.tellE (op := .load 25 (.tmp 99)) (ty := 25) (d := some 100) (g := none) (by kernel_rfl) (by kernel_rfl) (by kernel_rfl) (Ha0_f3.load (agg := true) hb298.1 hb298.2 z25 ag25 (fun h => by cases h) (by kernel_rfl)) ?_
                              rintro _ hrel
                              obtain ⟨_, _, rfl, rfl, ⟨_, _, rfl, rfl, ⟨_, _, rfl, ⟨Ae299, ce299, rfl, He299⟩, ⟨Ae300, ce300, rfl, He300⟩⟩⟩⟩ := k25_out hrel
                              replace He299 : Rd kStr G Ae299 ce299 ((a0.f3.getD y294.toNat z25).f2) := He299
                              replace He300 : Rd k25 G Ae300 ce300 ((a0.f3.getD y294.toNat z25).f3) := He300
                              rw [Option.bind_eq_some_iff] at h
                              obtain ⟨t301, ht302, h⟩ := h
                              refine WL.op (op := .call { callee := (.value (.func 53)), args := #[(.tmp 100)], argTypes := #[25] }) (ty := 4) (d := some 101) (g := none) (by kernel_rfl) (by kernel_rfl) (by kernel_rfl) (Does.call (f := 53) (args := [.agg #[.int .i64 ((a0.f3.getD y294.toNat z25).f0), .int .i64 ((a0.f3.getD y294.toNat z25).f1), .slice Ae299 ((a0.f3.getD y294.toNat z25).f2).length ce299, .slice Ae300 ((a0.f3.getD y294.toNat z25).f3).length ce300]]) (by kernel_rfl) (fun W hI => (ih HT (a0.f3.getD y294.toNat z25) Ae299 ce299 He299 Ae300 ce300 He300 t301 ht302 hI))) ?_
                              rintro _ _ _ ⟨rfl, rfl, rfl⟩
                              refine WL.restQ 6 [1, 3, 4, 6, 102] (L' := [(1, .pointer (some ⟨b1, 0, none⟩)), (3, .bool (a0.f1 == 0)), (4, .bool ((a0.f2.length : Int) == 0)), (6, .int .i64 y294), (102, .bool (!t301))]) (by kernel_rfl) ?_
                              refine WP.cond (b := (!t301)) (by kernel_rfl) (fun hc => ?_) (fun hc => ?_)
                              · replace hc := hc
                                rw [if_pos hc] at h
                                have hc305 := hc
                                clear hc
                                refine WP.seqP [2] (L' := [(2, .bool false)]) (by kernel_rfl) ?_
                                refine WP.dropAt 0 ?_
                                refine WP.ret ?_
                                refine QP.blockR ?_
                                refine QP.thenR ?_
                                refine QP.thenR ?_
                                refine QP.blockR ?_
                                refine QP.thenR ?_
                                refine QP.thenR ?_
                                obtain rfl := Option.some.inj h
                                obtain rfl := Option.some.inj (show some _ = some _ from hk293)
                                exact QP.returned [2] [.bool false] _ (by kernel_rfl) (by kernel_rfl) (by kernel_rfl) (fun W hI => ⟨_, _, _, rfl, ⟨rfl, rfl, rfl⟩, hI⟩)
                              · replace hc := (Bool.eq_false_iff.1 hc)
                                rw [if_neg hc] at h
                                have hc305 := hc
                                clear hc
                                refine WP.skip ?_
                                refine QP.blockN ?_
                                refine QP.next ?_
                                refine WP.pick [1, 3, 4, 6] ?_
                                refine WP.regionP [1, 3, 4, 6] (L' := [(1, .pointer (some ⟨b1, 0, none⟩)), (3, .bool (a0.f1 == 0)), (4, .bool ((a0.f2.length : Int) == 0)), (6, .int .i64 (IntKind.i64.wrap (y294 + 1)))]) (by kernel_rfl) ?_
                                refine QP.pick [1, 3, 4, 6] ?_
                                exact QP.meet ⟨kn296, Nat.lt_succ_self _, (IntKind.i64.wrap (y294 + 1)), h, rfl, rfl, rfl⟩
                            · replace hc := of_decide_eq_false hc
                              rw [if_neg hc] at h
                              have hc297 := hc
                              clear hc
                              refine WP.exit ?_
                              refine QP.thenE ?_
                              refine QP.thenE ?_
                              refine QP.blockE ?_
                              refine QP.dropAt 0 ?_
                              refine QP.pick [3, 4] ?_
                              exact QP.meet ⟨_, Option.some.inj h, rfl, rfl, rfl⟩
                        · rintro _ _ _ ⟨s292, rfl, rfl, rfl, rfl⟩
                          clear h
                          replace h := hk293
                          dsimp only at h
                          refine QP.next ?_
                          refine WP.pick [3, 4] ?_
                          rw [Option.bind_eq_some_iff] at h
                          obtain ⟨os306, h, hk307⟩ := h
                          refine WP.cut (fun L' G' Γ' => ∃ s306 : Bool, s306 = os306 ∧ L' = [(2, .bool s306)] ∧ G = G' ∧ Γ = Γ') ?_ ?_
                          · clear hk307
                            refine WP.region ?_
                            refine WL.pure 0 2 [4, 104] (L' := [(4, .bool ((a0.f2.length : Int) == 0)), (104, .bool (a0.f1 == 0))]) (by kernel_rfl) (by decide) ?_
                            refine WL.split 104 (b := (a0.f1 == 0)) (by kernel_rfl) (fun hc => ?_) (fun hc => ?_)
                            · replace hc := eq_of_beq hc
                              rw [if_pos hc] at h
                              have hc308 := hc
                              clear hc
                              refine WL.rest 2 [2] (L' := [(2, .bool ((a0.f2.length : Int) == 0))]) (by kernel_rfl) ?_
                              refine QP.pick [2] ?_
                              exact QP.meet ⟨_, Option.some.inj h, rfl, rfl, rfl⟩
                            · replace hc := ne_of_beq_false hc
                              rw [if_neg hc] at h
                              have hc308 := hc
                              clear hc
                              refine WL.rest 2 [2] (L' := [(2, .bool false)]) (by kernel_rfl) ?_
                              refine QP.pick [2] ?_
                              exact QP.meet ⟨_, Option.some.inj h, rfl, rfl, rfl⟩
                          · rintro _ _ _ ⟨s306, rfl, rfl, rfl, rfl⟩
                            clear h
                            replace h := hk307
                            refine WP.ret ?_
                            obtain rfl := Option.some.inj h
                            exact QP.returned [2] [.bool s306] _ (by kernel_rfl) (by kernel_rfl) (by kernel_rfl) (fun W hI => ⟨_, _, _, rfl, ⟨rfl, rfl, rfl⟩, hI⟩)
                    · replace hc := ne_of_beq_false hc
                      rw [if_neg hc] at h
                      have hc290 := hc
                      clear hc
                      refine WP.seqP [2] (L' := [(2, .bool false)]) (by kernel_rfl) ?_
                      refine WP.dropAt 0 ?_
                      refine WP.ret ?_
                      refine QP.blockR ?_
                      refine QP.thenR ?_
                      obtain rfl := Option.some.inj h
                      exact QP.returned [2] [.bool false] _ (by kernel_rfl) (by kernel_rfl) (by kernel_rfl) (fun W hI => ⟨_, _, _, rfl, ⟨rfl, rfl, rfl⟩, hI⟩)
theorem grapevineref14_form_calls {B : World} {G : GMap} {Γ : List Chunk} {W : World} (HT : Tabs B G) (k : Nat) (a0 : T25) (Aa0_f2 : Option Addr) (ca0_f2 : Nat) (Ha0_f2 : Rd kStr G Aa0_f2 ca0_f2 a0.f2) (Aa0_f3 : Option Addr) (ca0_f3 : Nat) (Ha0_f3 : Rd k25 G Aa0_f3 ca0_f3 a0.f3) (r : Bool) (h : grapevineref14_form k a0 = some r) (hI : Inv B G (Γ) W) :
    Calls Tryd.prog 53 [.agg #[.int .i64 a0.f0, .int .i64 a0.f1, .slice Aa0_f2 a0.f2.length ca0_f2, .slice Aa0_f3 a0.f3.length ca0_f3]].toArray W (Ret B (fun v G' Γ' => v = .bool r ∧ G = G' ∧ Γ = Γ')) := grapevineref14_form_calls_k k HT a0 Aa0_f2 ca0_f2 Ha0_f2 Aa0_f3 ca0_f3 Ha0_f3 r h hI
end Go.Proofs.YtbphlohiealbeaaDoor.Gf
