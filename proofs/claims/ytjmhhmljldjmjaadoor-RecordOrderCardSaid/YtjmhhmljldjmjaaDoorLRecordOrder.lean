/- Walks of Go functions: what each tells, as a plain Lean function, and that the Go code comes to it. Written by gg.py of this repo. -/
import Derived.Test.YtjmhhmljldjmjaaDoorT
import Derived.Test.YtjmhhmljldjmjaaDoorF0
import Derived.Test.YtjmhhmljldjmjaaDoorF3
namespace Go.Proofs.YtjmhhmljldjmjaaDoor.Gf
open Go Go.Gg
set_option maxRecDepth 100000
set_option linter.unusedVariables false
set_option linter.unusedSimpArgs false

/-! ### grapevine/grapevinelaw4.RecordOrder: function 9 -/
def grapevinelaw4_RecordOrder_l1 (l3 : List T27) (t131 : List T27) (y138 : Int) : Nat → Int → Int → Option Int
  | 0, _, _ => none
  | k + 1, y144, y145 => (if y145 < (t131.length : Int) then (if 0 ≤ y145 ∧ y145 < (t131.length : Int) then (if 0 ≤ y138 ∧ y138 < (t131.length : Int) then (if (t131.getD y145.toNat z27) = (t131.getD y138.toNat z27) then (if 0 ≤ y145 ∧ y145 < (l3.length : Int) then (if 0 ≤ y138 ∧ y138 < (t131.length : Int) then (if (l3.getD y145.toNat z27) = (t131.getD y138.toNat z27) then grapevinelaw4_RecordOrder_l1 l3 t131 y138 k (IntKind.i64.wrap ((IntKind.i64.wrap (y144 + 1)) - 1)) (IntKind.i64.wrap (y145 + 1)) else grapevinelaw4_RecordOrder_l1 l3 t131 y138 k (IntKind.i64.wrap (y144 + 1)) (IntKind.i64.wrap (y145 + 1))) else none) else none) else (if 0 ≤ y145 ∧ y145 < (l3.length : Int) then (if 0 ≤ y138 ∧ y138 < (t131.length : Int) then (if (l3.getD y145.toNat z27) = (t131.getD y138.toNat z27) then grapevinelaw4_RecordOrder_l1 l3 t131 y138 k (IntKind.i64.wrap (y144 - 1)) (IntKind.i64.wrap (y145 + 1)) else grapevinelaw4_RecordOrder_l1 l3 t131 y138 k y144 (IntKind.i64.wrap (y145 + 1))) else none) else none)) else none) else none) else some y144)
def grapevinelaw4_RecordOrder_l0 (l3 : List T27) (t131 : List T27) : Nat → Int → Option (Sum Bool Unit)
  | 0, _ => none
  | k + 1, y138 => (if y138 < (t131.length : Int) then ((grapevinelaw4_RecordOrder_l1 l3 t131 y138 k 0 0).bind fun s142 => ((if ¬ s142 = 0 then some true else (if y138 > 0 then (if 0 ≤ y138 ∧ y138 < (t131.length : Int) then (if 0 ≤ (IntKind.i64.wrap (y138 - 1)) ∧ (IntKind.i64.wrap (y138 - 1)) < (t131.length : Int) then ((record_Less (t131.getD y138.toNat z27) (t131.getD (IntKind.i64.wrap (y138 - 1)).toNat z27)).bind fun t164 => some t164) else none) else none) else some false)).bind fun s158 => (if s158 = true then some (Sum.inl false) else grapevinelaw4_RecordOrder_l0 l3 t131 k (IntKind.i64.wrap (y138 + 1))))) else some (Sum.inr ()))
def grapevinelaw4_RecordOrder (k : Nat) (a0 : T27) (a1 : T27) (a2 : T27) (l3 : List T27) : Option Bool := (((grapevinelaw0_GreatRecords k ([a0, a1, a2] : List T27) 3).bind fun t9 => (if t9 = true then some true else ((grapevinelaw0_GreatRecords k l3 30).bind fun t15 => some t15))).bind fun s4 => (if s4 = true then ((grapevinelaw4_awake k ).bind fun t20 => some t20) else ((record_Less a0 a1).bind fun t24 => ((record_Less a1 a0).bind fun t28 => ((if t24 = true then (if t28 = true then some true else (if t24 = true then (if (⟨a0.f0, a0.f1⟩ : T23) = (⟨a1.f0, a1.f1⟩ : T23) then (if (true == (decide ((⟨a0.f2, a0.f3⟩ : T25) = (⟨a1.f2, a1.f3⟩ : T25)))) = true then some true else (if t24 = true then ((record_Less a1 a2).bind fun t40 => (if t40 = true then ((record_Less a0 a2).bind fun t45 => some (!t45)) else some false)) else some false)) else (if (true == false) = true then some true else (if t24 = true then ((record_Less a1 a2).bind fun t51 => (if t51 = true then ((record_Less a0 a2).bind fun t56 => some (!t56)) else some false)) else some false))) else (if (⟨a0.f0, a0.f1⟩ : T23) = (⟨a1.f0, a1.f1⟩ : T23) then (if (t28 == (decide ((⟨a0.f2, a0.f3⟩ : T25) = (⟨a1.f2, a1.f3⟩ : T25)))) = true then some true else (if t24 = true then ((record_Less a1 a2).bind fun t63 => (if t63 = true then ((record_Less a0 a2).bind fun t68 => some (!t68)) else some false)) else some false)) else (if (t28 == false) = true then some true else (if t24 = true then ((record_Less a1 a2).bind fun t74 => (if t74 = true then ((record_Less a0 a2).bind fun t79 => some (!t79)) else some false)) else some false))))) else (if t24 = true then (if (⟨a0.f0, a0.f1⟩ : T23) = (⟨a1.f0, a1.f1⟩ : T23) then (if (true == (decide ((⟨a0.f2, a0.f3⟩ : T25) = (⟨a1.f2, a1.f3⟩ : T25)))) = true then some true else (if t24 = true then ((record_Less a1 a2).bind fun t87 => (if t87 = true then ((record_Less a0 a2).bind fun t92 => some (!t92)) else some false)) else some false)) else (if (true == false) = true then some true else (if t24 = true then ((record_Less a1 a2).bind fun t98 => (if t98 = true then ((record_Less a0 a2).bind fun t103 => some (!t103)) else some false)) else some false))) else (if (⟨a0.f0, a0.f1⟩ : T23) = (⟨a1.f0, a1.f1⟩ : T23) then (if (t28 == (decide ((⟨a0.f2, a0.f3⟩ : T25) = (⟨a1.f2, a1.f3⟩ : T25)))) = true then some true else (if t24 = true then ((record_Less a1 a2).bind fun t110 => (if t110 = true then ((record_Less a0 a2).bind fun t115 => some (!t115)) else some false)) else some false)) else (if (t28 == false) = true then some true else (if t24 = true then ((record_Less a1 a2).bind fun t121 => (if t121 = true then ((record_Less a0 a2).bind fun t126 => some (!t126)) else some false)) else some false))))).bind fun s32 => (if s32 = true then some false else ((record_Sort k l3).bind fun t131 => (if ¬ (t131.length : Int) = (l3.length : Int) then some false else ((grapevinelaw4_RecordOrder_l0 l3 t131 k 0).bind fun os136 => match os136 with | Sum.inl r => some r | Sum.inr s136 => (((record_Sort k t131).bind fun t171 => ((grapevinelaw0_SameRecords k t171 t131).bind fun t176 => (if t176 = true then ((grapevinelaw4_awake k ).bind fun t183 => some t183) else some false))).bind fun s169 => some s169))))))))))
set_option maxHeartbeats 4000000 in
theorem grapevinelaw4_RecordOrder_calls {B : World} {G : GMap} {Γ : List Chunk} {W : World} (HT : Tabs B G) (k : Nat) (a0 : T27) (a1 : T27) (a2 : T27) (l3 : List T27) (Al3 : Option Addr) (cl3 : Nat) (Hl3 : Rd k27 G Al3 cl3 l3) (r : Bool) (h : grapevinelaw4_RecordOrder k a0 a1 a2 l3 = some r) (hI : Inv B G (Γ) W) :
    Calls Tryd.prog 9 [.agg #[.int .i64 a0.f0, .int .i64 a0.f1, .int .i64 a0.f2, .int .i64 a0.f3, .string a0.f4], .agg #[.int .i64 a1.f0, .int .i64 a1.f1, .int .i64 a1.f2, .int .i64 a1.f3, .string a1.f4], .agg #[.int .i64 a2.f0, .int .i64 a2.f1, .int .i64 a2.f2, .int .i64 a2.f3, .string a2.f4], .slice Al3 l3.length cl3].toArray W (Ret B (fun v G' Γ' => v = .bool r ∧ G = G' ∧ Γ = Γ')) := by
  refine calls_WP (Γ := Γ) (G := G) (B := B) Tryd.func9 rfl (by kernel_rfl) ?_ hI
  clear hI
  unfold grapevinelaw4_RecordOrder at h
  refine WP.seqR ?_
  refine WL.op (op := .box 27 (.tmp 0)) (ty := 0) (d := some 4) (g := none) (by kernel_rfl) (by kernel_rfl) (by kernel_rfl) (Does.new (o := .cells #[.int .i64 a0.f0, .int .i64 a0.f1, .int .i64 a0.f2, .int .i64 a0.f3, .string a0.f4] 27 (0, 0)) (v := fun r => .pointer (some ⟨r, 0, none⟩)) (fun r => by kernel_rfl)) ?_
  rintro _ _ _ ⟨b1, rfl, rfl, rfl⟩
  refine WL.op (op := .box 27 (.tmp 1)) (ty := 0) (d := some 5) (g := none) (by kernel_rfl) (by kernel_rfl) (by kernel_rfl) (Does.new (o := .cells #[.int .i64 a1.f0, .int .i64 a1.f1, .int .i64 a1.f2, .int .i64 a1.f3, .string a1.f4] 27 (0, 0)) (v := fun r => .pointer (some ⟨r, 0, none⟩)) (fun r => by kernel_rfl)) ?_
  rintro _ _ _ ⟨b2, rfl, rfl, rfl⟩
  refine WL.op (op := .box 27 (.tmp 2)) (ty := 0) (d := some 6) (g := none) (by kernel_rfl) (by kernel_rfl) (by kernel_rfl) (Does.new (o := .cells #[.int .i64 a2.f0, .int .i64 a2.f1, .int .i64 a2.f2, .int .i64 a2.f3, .string a2.f4] 27 (0, 0)) (v := fun r => .pointer (some ⟨r, 0, none⟩)) (fun r => by kernel_rfl)) ?_
  rintro _ _ _ ⟨b3, rfl, rfl, rfl⟩
  refine WL.restQ 3 [3, 4, 5, 6] (L' := [(3, .slice Al3 l3.length cl3), (4, .pointer (some ⟨b1, 0, none⟩)), (5, .pointer (some ⟨b2, 0, none⟩)), (6, .pointer (some ⟨b3, 0, none⟩))]) (by kernel_rfl) ?_
  refine WP.seq ?_
  rw [Option.bind_eq_some_iff] at h
  obtain ⟨os4, h, hk5⟩ := h
  refine WP.cut (fun L' G' Γ' => ∃ s4 : Bool, s4 = os4 ∧ L' = [(3, .slice Al3 l3.length cl3), (4, .pointer (some ⟨b1, 0, none⟩)), (5, .pointer (some ⟨b2, 0, none⟩)), (6, .pointer (some ⟨b3, 0, none⟩)), (23, .bool s4)] ∧ G = G' ∧ [(b3, .cells #[.int .i64 a2.f0, .int .i64 a2.f1, .int .i64 a2.f2, .int .i64 a2.f3, .string a2.f4] 27 (0, 0))] :: [(b2, .cells #[.int .i64 a1.f0, .int .i64 a1.f1, .int .i64 a1.f2, .int .i64 a1.f3, .string a1.f4] 27 (0, 0))] :: [(b1, .cells #[.int .i64 a0.f0, .int .i64 a0.f1, .int .i64 a0.f2, .int .i64 a0.f3, .string a0.f4] 27 (0, 0))] :: Γ = Γ') ?_ ?_
  · clear hk5
    refine WP.region ?_
    refine WL.tell (op := .load 27 (.tmp 4)) (ty := 27) (d := some 15) (g := none) (by kernel_rfl) (by kernel_rfl) (by kernel_rfl) (Tells.load_box (i := 2) (b := b1) (o := 0) (agg := true) (by rfl) ag27 (by kernel_rfl) (fun h => by cases h) (Nat.le_of_ble_eq_true rfl) (v := .agg #[.int .i64 a0.f0, .int .i64 a0.f1, .int .i64 a0.f2, .int .i64 a0.f3, .string a0.f4]) (by kernel_rfl)) ?_
    refine WL.tell (op := .load 27 (.tmp 5)) (ty := 27) (d := some 16) (g := none) (by kernel_rfl) (by kernel_rfl) (by kernel_rfl) (Tells.load_box (i := 1) (b := b2) (o := 0) (agg := true) (by rfl) ag27 (by kernel_rfl) (fun h => by cases h) (Nat.le_of_ble_eq_true rfl) (v := .agg #[.int .i64 a1.f0, .int .i64 a1.f1, .int .i64 a1.f2, .int .i64 a1.f3, .string a1.f4]) (by kernel_rfl)) ?_
    refine WL.tell (op := .load 27 (.tmp 6)) (ty := 27) (d := some 17) (g := none) (by kernel_rfl) (by kernel_rfl) (by kernel_rfl) (Tells.load_box (i := 0) (b := b3) (o := 0) (agg := true) (by rfl) ag27 (by kernel_rfl) (fun h => by cases h) (Nat.le_of_ble_eq_true rfl) (v := .agg #[.int .i64 a2.f0, .int .i64 a2.f1, .int .i64 a2.f2, .int .i64 a2.f3, .string a2.f4]) (by kernel_rfl)) ?_
    refine WL.op (op := .buildSlice 46 3 #[(0, (.tmp 15)), (1, (.tmp 16)), (2, (.tmp 17))]) (ty := 46) (d := some 18) (g := none) (by kernel_rfl) (by kernel_rfl) (by kernel_rfl) (Does.new (o := .cells #[.int .i64 a0.f0, .int .i64 a0.f1, .int .i64 a0.f2, .int .i64 a0.f3, .string a0.f4, .int .i64 a1.f0, .int .i64 a1.f1, .int .i64 a1.f2, .int .i64 a1.f3, .string a1.f4, .int .i64 a2.f0, .int .i64 a2.f1, .int .i64 a2.f2, .int .i64 a2.f3, .string a2.f4] 27 (0, 0)) (v := fun r => .slice (some ⟨r, 0, none⟩) 3 3) (fun r => by kernel_rfl)) ?_
    rintro _ _ _ ⟨b6, rfl, rfl, rfl⟩
    have Ho8 : Ow k27 G (some ⟨b6, 0, none⟩) 3 ([a0, a1, a2] : List T27) [(b6, .cells #[.int .i64 a0.f0, .int .i64 a0.f1, .int .i64 a0.f2, .int .i64 a0.f3, .string a0.f4, .int .i64 a1.f0, .int .i64 a1.f1, .int .i64 a1.f2, .int .i64 a1.f3, .string a1.f4, .int .i64 a2.f0, .int .i64 a2.f1, .int .i64 a2.f2, .int .i64 a2.f3, .string a2.f4] 27 (0, 0))] := Ow.lit (kd := k27) (G := G) (b := b6) (T := 27) (xs := ([a0, a1, a2] : List T27)) (cs := [.int .i64 a0.f0, .int .i64 a0.f1, .int .i64 a0.f2, .int .i64 a0.f3, .string a0.f4, .int .i64 a1.f0, .int .i64 a1.f1, .int .i64 a1.f2, .int .i64 a1.f3, .string a1.f4, .int .i64 a2.f0, .int .i64 a2.f1, .int .i64 a2.f2, .int .i64 a2.f3, .string a2.f4]) (.cons (x := a0) (cs := [.int .i64 a0.f0, .int .i64 a0.f1, .int .i64 a0.f2, .int .i64 a0.f3, .string a0.f4]) (by exact rfl) (.cons (x := a1) (cs := [.int .i64 a1.f0, .int .i64 a1.f1, .int .i64 a1.f2, .int .i64 a1.f3, .string a1.f4]) (by exact rfl) (.cons (x := a2) (cs := [.int .i64 a2.f0, .int .i64 a2.f1, .int .i64 a2.f2, .int .i64 a2.f3, .string a2.f4]) (by exact rfl) .nil)))
    rw [Option.bind_eq_some_iff] at h
    obtain ⟨t9, ht10, h⟩ := h
    refine WL.op (op := .call { callee := (.value (.func 26)), args := #[(.tmp 18), (.const (.int .i64 3))], argTypes := #[46, 3] }) (ty := 4) (d := some 19) (g := none) (by kernel_rfl) (by kernel_rfl) (by kernel_rfl) (Does.call (Φ := fun v' G' Γ' => v' = .bool t9 ∧ G = G' ∧ [(b6, .cells #[.int .i64 a0.f0, .int .i64 a0.f1, .int .i64 a0.f2, .int .i64 a0.f3, .string a0.f4, .int .i64 a1.f0, .int .i64 a1.f1, .int .i64 a1.f2, .int .i64 a1.f3, .string a1.f4, .int .i64 a2.f0, .int .i64 a2.f1, .int .i64 a2.f2, .int .i64 a2.f3, .string a2.f4] 27 (0, 0))] :: [(b3, .cells #[.int .i64 a2.f0, .int .i64 a2.f1, .int .i64 a2.f2, .int .i64 a2.f3, .string a2.f4] 27 (0, 0))] :: [(b2, .cells #[.int .i64 a1.f0, .int .i64 a1.f1, .int .i64 a1.f2, .int .i64 a1.f3, .string a1.f4] 27 (0, 0))] :: [(b1, .cells #[.int .i64 a0.f0, .int .i64 a0.f1, .int .i64 a0.f2, .int .i64 a0.f3, .string a0.f4] 27 (0, 0))] :: Γ = Γ') (f := 26) (args := [.slice (some ⟨b6, 0, none⟩) ([a0, a1, a2] : List T27).length 3, .int .i64 3]) (by kernel_rfl) (fun W hI => (Calls.lendN (Φ := fun v' N => v' = .bool t9 ∧ N = []) (H := []) (i := 0) rfl hI (fun _ e l13 nl13 hI => by subst e; exact (((grapevinelaw0_GreatRecords_calls k ([a0, a1, a2] : List T27) 3 (some ⟨b6, 0, none⟩) 3 (Ho8.rdN l13 nl13) t9 ht10 hI)).mono fun _ _ hr => by obtain ⟨_, _, _, rfl, hd, hI⟩ := hr; obtain ⟨rfl, rfl, rfl⟩ := hd; exact ⟨_, _, _, rfl, ⟨[], ⟨rfl, rfl⟩, rfl, rfl⟩, hI⟩))).mono fun _ _ hr => by obtain ⟨_, _, _, rfl, ⟨_, hd, rfl, rfl⟩, hI⟩ := hr; obtain ⟨rfl, rfl⟩ := hd; exact ⟨_, _, _, rfl, ⟨rfl, rfl, rfl⟩, hI⟩)) ?_
    rintro _ _ _ ⟨rfl, rfl, rfl⟩
    refine WL.pure 5 6 [3, 4, 5, 6, 20] (L' := [(3, .slice Al3 l3.length cl3), (4, .pointer (some ⟨b1, 0, none⟩)), (5, .pointer (some ⟨b2, 0, none⟩)), (6, .pointer (some ⟨b3, 0, none⟩)), (20, .bool t9)]) (by kernel_rfl) (by decide) ?_
    refine WL.split 20 (b := t9) (by kernel_rfl) (fun hc => ?_) (fun hc => ?_)
    · replace hc := hc
      rw [if_pos hc] at h
      have hc14 := hc
      clear hc
      refine WL.rest 6 [3, 4, 5, 6, 23] (L' := [(3, .slice Al3 l3.length cl3), (4, .pointer (some ⟨b1, 0, none⟩)), (5, .pointer (some ⟨b2, 0, none⟩)), (6, .pointer (some ⟨b3, 0, none⟩)), (23, .bool true)]) (by kernel_rfl) ?_
      refine QP.dropAt 0 ?_
      refine QP.pick [3, 4, 5, 6, 23] ?_
      exact QP.meet ⟨_, Option.some.inj h, rfl, rfl, rfl⟩
    · replace hc := (Bool.eq_false_iff.1 hc)
      rw [if_neg hc] at h
      have hc14 := hc
      clear hc
      refine WL.pure 6 7 [3, 4, 5, 6, 20, 21] (L' := [(3, .slice Al3 l3.length cl3), (4, .pointer (some ⟨b1, 0, none⟩)), (5, .pointer (some ⟨b2, 0, none⟩)), (6, .pointer (some ⟨b3, 0, none⟩)), (20, .bool false), (21, .slice Al3 l3.length cl3)]) (by kernel_rfl) (by decide) ?_
      rw [Option.bind_eq_some_iff] at h
      obtain ⟨t15, ht16, h⟩ := h
      refine WL.op (op := .call { callee := (.value (.func 26)), args := #[(.tmp 21), (.const (.int .i64 30))], argTypes := #[46, 3] }) (ty := 4) (d := some 22) (g := some (5, false)) (by kernel_rfl) (by kernel_rfl) (by kernel_rfl) (Does.call (f := 26) (args := [.slice Al3 l3.length cl3, .int .i64 30]) (by kernel_rfl) (fun W hI => (grapevinelaw0_GreatRecords_calls k l3 30 Al3 cl3 Hl3 t15 ht16 hI))) ?_
      rintro _ _ _ ⟨rfl, rfl, rfl⟩
      refine WL.rest 8 [3, 4, 5, 6, 23] (L' := [(3, .slice Al3 l3.length cl3), (4, .pointer (some ⟨b1, 0, none⟩)), (5, .pointer (some ⟨b2, 0, none⟩)), (6, .pointer (some ⟨b3, 0, none⟩)), (23, .bool t15)]) (by kernel_rfl) ?_
      refine QP.dropAt 0 ?_
      refine QP.pick [3, 4, 5, 6, 23] ?_
      exact QP.meet ⟨_, Option.some.inj h, rfl, rfl, rfl⟩
  · rintro _ _ _ ⟨s4, rfl, rfl, rfl, rfl⟩
    clear h
    replace h := hk5
    refine WP.cond (b := s4) (by kernel_rfl) (fun hc => ?_) (fun hc => ?_)
    · replace hc := hc
      rw [if_pos hc] at h
      have hc19 := hc
      clear hc
      refine WP.seqR ?_
      rw [Option.bind_eq_some_iff] at h
      obtain ⟨t20, ht21, h⟩ := h
      refine WL.op (op := .call { callee := (.value (.func 13)), args := #[], argTypes := #[] }) (ty := 4) (d := some 24) (g := none) (by kernel_rfl) (by kernel_rfl) (by kernel_rfl) (Does.call (f := 13) (args := []) (by kernel_rfl) (fun W hI => (grapevinelaw4_awake_calls HT k   t20 ht21 hI))) ?_
      rintro _ _ _ ⟨rfl, rfl, rfl⟩
      refine WL.restQ 1 [8] (L' := [(8, .bool t20)]) (by kernel_rfl) ?_
      refine WP.dropAt 2 ?_
      refine WP.dropAt 1 ?_
      refine WP.dropAt 0 ?_
      refine WP.ret ?_
      refine QP.thenR ?_
      obtain rfl := Option.some.inj h
      exact QP.returned [8] [.bool t20] _ (by kernel_rfl) (by kernel_rfl) (by kernel_rfl) (fun W hI => ⟨_, _, _, rfl, ⟨rfl, rfl, rfl⟩, hI⟩)
    · replace hc := (Bool.eq_false_iff.1 hc)
      rw [if_neg hc] at h
      have hc19 := hc
      clear hc
      refine WP.skip ?_
      refine QP.next ?_
      refine WP.pick [3, 4, 5, 6] ?_
      refine WP.seq ?_
      refine WP.any (N := 8) (S := [⟨some 25, [4], []⟩, ⟨some 26, [5], []⟩, ⟨some 27, [25, 26], [0, 1]⟩, ⟨some 28, [5], []⟩, ⟨some 29, [4], []⟩, ⟨some 30, [28, 29], [2, 3, 4]⟩, ⟨some 9, [27], [0, 1, 2, 5]⟩, ⟨some 10, [30], [0, 1, 2, 3, 4, 5, 6]⟩]) (kw := 8) (G0 := G) (Γ0 := [(b3, .cells #[.int .i64 a2.f0, .int .i64 a2.f1, .int .i64 a2.f2, .int .i64 a2.f3, .string a2.f4] 27 (0, 0))] :: [(b2, .cells #[.int .i64 a1.f0, .int .i64 a1.f1, .int .i64 a1.f2, .int .i64 a1.f3, .string a1.f4] 27 (0, 0))] :: [(b1, .cells #[.int .i64 a0.f0, .int .i64 a0.f1, .int .i64 a0.f2, .int .i64 a0.f3, .string a0.f4] 27 (0, 0))] :: Γ) mo (by kernel_rfl) (fun hS => ?_)
      refine WA.tellD [] (i := 0) (m := 7) (b' := 1) (by kernel_rfl) (NoPanic.then (NoPanic.body)) Under.refl hS (by kernel_rfl) (op := .load 27 (.tmp 4)) (ty := 27) (d := some 25) (g := none) (by kernel_rfl) (by kernel_rfl) (by kernel_rfl) (Tells.load_box (i := 2) (b := b1) (o := 0) (agg := true) (by rfl) ag27 (by kernel_rfl) (fun h => by cases h) (Nat.le_of_ble_eq_true rfl) (v := .agg #[.int .i64 a0.f0, .int .i64 a0.f1, .int .i64 a0.f2, .int .i64 a0.f3, .string a0.f4]) (by kernel_rfl)) ?_
      refine WA.tellD [] (i := 1) (m := 6) (b' := 3) (by kernel_rfl) (NoPanic.then (NoPanic.body)) Under.refl hS (by kernel_rfl) (op := .load 27 (.tmp 5)) (ty := 27) (d := some 26) (g := none) (by kernel_rfl) (by kernel_rfl) (by kernel_rfl) (Tells.load_box (i := 1) (b := b2) (o := 0) (agg := true) (by rfl) ag27 (by kernel_rfl) (fun h => by cases h) (Nat.le_of_ble_eq_true rfl) (v := .agg #[.int .i64 a1.f0, .int .i64 a1.f1, .int .i64 a1.f2, .int .i64 a1.f3, .string a1.f4]) (by kernel_rfl)) ?_
      refine WA.tellD [] (i := 3) (m := 5) (b' := 11) (by kernel_rfl) (NoPanic.then (NoPanic.body)) Under.refl hS (by kernel_rfl) (op := .load 27 (.tmp 5)) (ty := 27) (d := some 28) (g := none) (by kernel_rfl) (by kernel_rfl) (by kernel_rfl) (Tells.load_box (i := 1) (b := b2) (o := 0) (agg := true) (by rfl) ag27 (by kernel_rfl) (fun h => by cases h) (Nat.le_of_ble_eq_true rfl) (v := .agg #[.int .i64 a1.f0, .int .i64 a1.f1, .int .i64 a1.f2, .int .i64 a1.f3, .string a1.f4]) (by kernel_rfl)) ?_
      refine WA.tellD [] (i := 4) (m := 4) (b' := 27) (by kernel_rfl) (NoPanic.then (NoPanic.body)) Under.refl hS (by kernel_rfl) (op := .load 27 (.tmp 4)) (ty := 27) (d := some 29) (g := none) (by kernel_rfl) (by kernel_rfl) (by kernel_rfl) (Tells.load_box (i := 2) (b := b1) (o := 0) (agg := true) (by rfl) ag27 (by kernel_rfl) (fun h => by cases h) (Nat.le_of_ble_eq_true rfl) (v := .agg #[.int .i64 a0.f0, .int .i64 a0.f1, .int .i64 a0.f2, .int .i64 a0.f3, .string a0.f4]) (by kernel_rfl)) ?_
      rw [Option.bind_eq_some_iff] at h
      obtain ⟨t24, ht25, h⟩ := h
      refine WA.op (i := 2) (m := 3) (b' := 31) (by kernel_rfl) hS (by kernel_rfl) (op := .call { callee := (.value (.func 34)), args := #[(.tmp 25), (.tmp 26)], argTypes := #[27, 27] }) (ty := 4) (d := some 27) (g := none) (by kernel_rfl) (by kernel_rfl) (by kernel_rfl) (Does.call (f := 34) (args := [.agg #[.int .i64 a0.f0, .int .i64 a0.f1, .int .i64 a0.f2, .int .i64 a0.f3, .string a0.f4], .agg #[.int .i64 a1.f0, .int .i64 a1.f1, .int .i64 a1.f2, .int .i64 a1.f3, .string a1.f4]]) (by kernel_rfl) (fun W hI => (record_Less_calls a0 a1  t24 ht25 hI))) ?_
      rintro _ _ _ ⟨rfl, rfl, rfl⟩
      refine ⟨_, _, Under.refl, Under.refl, ?_⟩
      rw [Option.bind_eq_some_iff] at h
      obtain ⟨t28, ht29, h⟩ := h
      refine WA.op (i := 5) (m := 2) (b' := 63) (by kernel_rfl) hS (by kernel_rfl) (op := .call { callee := (.value (.func 34)), args := #[(.tmp 28), (.tmp 29)], argTypes := #[27, 27] }) (ty := 4) (d := some 30) (g := none) (by kernel_rfl) (by kernel_rfl) (by kernel_rfl) (Does.call (f := 34) (args := [.agg #[.int .i64 a1.f0, .int .i64 a1.f1, .int .i64 a1.f2, .int .i64 a1.f3, .string a1.f4], .agg #[.int .i64 a0.f0, .int .i64 a0.f1, .int .i64 a0.f2, .int .i64 a0.f3, .string a0.f4]]) (by kernel_rfl) (fun W hI => (record_Less_calls a1 a0  t28 ht29 hI))) ?_
      rintro _ _ _ ⟨rfl, rfl, rfl⟩
      refine ⟨_, _, Under.refl, Under.refl, ?_⟩
      refine WA.pure [6, 7] [3, 4, 5, 6, 9, 10] (m := 0) (b' := 255) (L' := [(3, .slice Al3 l3.length cl3), (4, .pointer (some ⟨b1, 0, none⟩)), (5, .pointer (some ⟨b2, 0, none⟩)), (6, .pointer (some ⟨b3, 0, none⟩)), (9, .bool t24), (10, .bool t28)]) (by kernel_rfl) (NoPanic.then (NoPanic.body)) Under.refl hS (by kernel_rfl) ?_
      refine WA.done hS (by kernel_rfl) ?_
      refine QP.pick [3, 4, 5, 6, 9, 10] ?_
      refine QP.next ?_
      refine WP.seq ?_
      rw [Option.bind_eq_some_iff] at h
      obtain ⟨os32, h, hk33⟩ := h
      refine WP.cut (fun L' G' Γ' => ∃ s32 : Bool, s32 = os32 ∧ L' = [(3, .slice Al3 l3.length cl3), (67, .bool s32)] ∧ G = G' ∧ Γ = Γ') ?_ ?_
      · clear hk33
        refine WP.region ?_
        refine WL.pure 0 2 [3, 4, 5, 6, 9, 10, 32] (L' := [(3, .slice Al3 l3.length cl3), (4, .pointer (some ⟨b1, 0, none⟩)), (5, .pointer (some ⟨b2, 0, none⟩)), (6, .pointer (some ⟨b3, 0, none⟩)), (9, .bool t24), (10, .bool t28), (32, .bool t24)]) (by kernel_rfl) (by decide) ?_
        refine WL.split 32 (b := t24) (by kernel_rfl) (fun hc => ?_) (fun hc => ?_)
        · replace hc := hc
          rw [if_pos hc] at h
          have hc34 := hc
          clear hc
          refine WL.pure 2 5 [3, 4, 5, 6, 9, 10, 35] (L' := [(3, .slice Al3 l3.length cl3), (4, .pointer (some ⟨b1, 0, none⟩)), (5, .pointer (some ⟨b2, 0, none⟩)), (6, .pointer (some ⟨b3, 0, none⟩)), (9, .bool t24), (10, .bool t28), (35, .bool t28)]) (by kernel_rfl) (by decide) ?_
          refine WL.split 35 (b := t28) (by kernel_rfl) (fun hc => ?_) (fun hc => ?_)
          · replace hc := hc
            rw [if_pos hc] at h
            have hc35 := hc
            clear hc
            refine WL.rest 5 [3, 67] (L' := [(3, .slice Al3 l3.length cl3), (67, .bool true)]) (by kernel_rfl) ?_
            refine QP.dropAt 2 ?_
            refine QP.dropAt 1 ?_
            refine QP.dropAt 0 ?_
            refine QP.pick [3, 67] ?_
            exact QP.meet ⟨_, Option.some.inj h, rfl, rfl, rfl⟩
          · replace hc := (Bool.eq_false_iff.1 hc)
            rw [if_neg hc] at h
            have hc35 := hc
            clear hc
            refine WL.pure 5 7 [3, 4, 5, 6, 9, 10, 35, 37] (L' := [(3, .slice Al3 l3.length cl3), (4, .pointer (some ⟨b1, 0, none⟩)), (5, .pointer (some ⟨b2, 0, none⟩)), (6, .pointer (some ⟨b3, 0, none⟩)), (9, .bool t24), (10, .bool t28), (35, .bool false), (37, .bool t24)]) (by kernel_rfl) (by decide) ?_
            refine WL.split 37 (b := t24) (by kernel_rfl) (fun hc => ?_) (fun hc => ?_)
            · replace hc := hc
              rw [if_pos hc] at h
              have hc36 := hc
              clear hc
              refine WL.pure 7 10 [3, 4, 5, 6, 9, 35, 39, 40] (L' := [(3, .slice Al3 l3.length cl3), (4, .pointer (some ⟨b1, 0, none⟩)), (5, .pointer (some ⟨b2, 0, none⟩)), (6, .pointer (some ⟨b3, 0, none⟩)), (9, .bool t24), (35, .bool false), (39, .bool true), (40, .pointer (some ⟨b1, 0, none⟩))]) (by kernel_rfl) (by decide) ?_
              refine WL.tell (op := .load 23 (.tmp 40)) (ty := 23) (d := some 41) (g := some (4, false)) (by kernel_rfl) (by kernel_rfl) (by kernel_rfl) (Tells.load_box (i := 2) (b := b1) (o := 0) (agg := true) (by rfl) ag23 (by kernel_rfl) (fun h => by cases h) (Nat.le_of_ble_eq_true rfl) (v := .agg #[.int .i64 a0.f0, .int .i64 a0.f1]) (by kernel_rfl)) ?_
              refine WL.pure 11 12 [3, 4, 5, 6, 9, 35, 39, 41, 42] (L' := [(3, .slice Al3 l3.length cl3), (4, .pointer (some ⟨b1, 0, none⟩)), (5, .pointer (some ⟨b2, 0, none⟩)), (6, .pointer (some ⟨b3, 0, none⟩)), (9, .bool t24), (35, .bool false), (39, .bool true), (41, .agg #[.int .i64 a0.f0, .int .i64 a0.f1]), (42, .pointer (some ⟨b2, 0, none⟩))]) (by kernel_rfl) (by decide) ?_
              refine WL.tell (op := .load 23 (.tmp 42)) (ty := 23) (d := some 43) (g := some (4, false)) (by kernel_rfl) (by kernel_rfl) (by kernel_rfl) (Tells.load_box (i := 1) (b := b2) (o := 0) (agg := true) (by rfl) ag23 (by kernel_rfl) (fun h => by cases h) (Nat.le_of_ble_eq_true rfl) (v := .agg #[.int .i64 a1.f0, .int .i64 a1.f1]) (by kernel_rfl)) ?_
              refine WL.tell (op := .binOp .eql 23 (.tmp 41) (.tmp 43) 23) (ty := 4) (d := some 44) (g := some (4, false)) (by kernel_rfl) (by kernel_rfl) (by kernel_rfl) (Tells.eqAgg (xs := #[.int .i64 a0.f0, .int .i64 a0.f1]) (ys := #[.int .i64 a1.f0, .int .i64 a1.f1]) (ls := [.int a0.f0 a1.f0, .int a0.f1 a1.f1]) (by kernel_rfl) (by kernel_rfl) (by kernel_rfl) eg23) ?_
              refine WL.reput 44 (v := .bool ([.int a0.f0 a1.f0, .int a0.f1 a1.f1].all Lf.ok)) (v' := .bool (decide ((⟨a0.f0, a0.f1⟩ : T23) = (⟨a1.f0, a1.f1⟩ : T23)))) (by kernel_rfl) (by exact (congrArg Value.bool (eqT23 (⟨a0.f0, a0.f1⟩ : T23) (⟨a1.f0, a1.f1⟩ : T23)))) ?_
              refine WL.pure 14 15 [3, 4, 5, 6, 9, 35, 39, 45] (L' := [(3, .slice Al3 l3.length cl3), (4, .pointer (some ⟨b1, 0, none⟩)), (5, .pointer (some ⟨b2, 0, none⟩)), (6, .pointer (some ⟨b3, 0, none⟩)), (9, .bool t24), (35, .bool false), (39, .bool true), (45, .bool (decide ((⟨a0.f0, a0.f1⟩ : T23) = (⟨a1.f0, a1.f1⟩ : T23))))]) (by kernel_rfl) (by decide) ?_
              refine WL.split 45 (b := decide ((⟨a0.f0, a0.f1⟩ : T23) = (⟨a1.f0, a1.f1⟩ : T23))) (by kernel_rfl) (fun hc => ?_) (fun hc => ?_)
              · replace hc := of_decide_eq_true hc
                rw [if_pos hc] at h
                have hc37 := hc
                clear hc
                refine WL.pure 15 16 [3, 4, 5, 6, 9, 35, 39, 45, 46] (L' := [(3, .slice Al3 l3.length cl3), (4, .pointer (some ⟨b1, 0, none⟩)), (5, .pointer (some ⟨b2, 0, none⟩)), (6, .pointer (some ⟨b3, 0, none⟩)), (9, .bool t24), (35, .bool false), (39, .bool true), (45, .bool true), (46, .pointer (some ⟨b1, 2, none⟩))]) (by kernel_rfl) (by decide) ?_
                refine WL.tell (op := .load 25 (.tmp 46)) (ty := 25) (d := some 47) (g := some (14, true)) (by kernel_rfl) (by kernel_rfl) (by kernel_rfl) (Tells.load_box (i := 2) (b := b1) (o := 2) (agg := true) (by rfl) ag25 (by kernel_rfl) (fun h => by cases h) (Nat.le_of_ble_eq_true rfl) (v := .agg #[.int .i64 a0.f2, .int .i64 a0.f3]) (by kernel_rfl)) ?_
                refine WL.pure 17 18 [3, 4, 5, 6, 9, 35, 39, 45, 47, 48] (L' := [(3, .slice Al3 l3.length cl3), (4, .pointer (some ⟨b1, 0, none⟩)), (5, .pointer (some ⟨b2, 0, none⟩)), (6, .pointer (some ⟨b3, 0, none⟩)), (9, .bool t24), (35, .bool false), (39, .bool true), (45, .bool true), (47, .agg #[.int .i64 a0.f2, .int .i64 a0.f3]), (48, .pointer (some ⟨b2, 2, none⟩))]) (by kernel_rfl) (by decide) ?_
                refine WL.tell (op := .load 25 (.tmp 48)) (ty := 25) (d := some 49) (g := some (14, true)) (by kernel_rfl) (by kernel_rfl) (by kernel_rfl) (Tells.load_box (i := 1) (b := b2) (o := 2) (agg := true) (by rfl) ag25 (by kernel_rfl) (fun h => by cases h) (Nat.le_of_ble_eq_true rfl) (v := .agg #[.int .i64 a1.f2, .int .i64 a1.f3]) (by kernel_rfl)) ?_
                refine WL.tell (op := .binOp .eql 25 (.tmp 47) (.tmp 49) 25) (ty := 4) (d := some 50) (g := some (14, true)) (by kernel_rfl) (by kernel_rfl) (by kernel_rfl) (Tells.eqAgg (xs := #[.int .i64 a0.f2, .int .i64 a0.f3]) (ys := #[.int .i64 a1.f2, .int .i64 a1.f3]) (ls := [.int a0.f2 a1.f2, .int a0.f3 a1.f3]) (by kernel_rfl) (by kernel_rfl) (by kernel_rfl) eg25) ?_
                refine WL.reput 50 (v := .bool ([.int a0.f2 a1.f2, .int a0.f3 a1.f3].all Lf.ok)) (v' := .bool (decide ((⟨a0.f2, a0.f3⟩ : T25) = (⟨a1.f2, a1.f3⟩ : T25)))) (by kernel_rfl) (by exact (congrArg Value.bool (eqT25 (⟨a0.f2, a0.f3⟩ : T25) (⟨a1.f2, a1.f3⟩ : T25)))) ?_
                refine WL.pure 20 24 [3, 4, 5, 6, 9, 54] (L' := [(3, .slice Al3 l3.length cl3), (4, .pointer (some ⟨b1, 0, none⟩)), (5, .pointer (some ⟨b2, 0, none⟩)), (6, .pointer (some ⟨b3, 0, none⟩)), (9, .bool t24), (54, .bool (true == (decide ((⟨a0.f2, a0.f3⟩ : T25) = (⟨a1.f2, a1.f3⟩ : T25)))))]) (by kernel_rfl) (by decide) ?_
                refine WL.split 54 (b := (true == (decide ((⟨a0.f2, a0.f3⟩ : T25) = (⟨a1.f2, a1.f3⟩ : T25))))) (by kernel_rfl) (fun hc => ?_) (fun hc => ?_)
                · replace hc := hc
                  rw [if_pos hc] at h
                  have hc38 := hc
                  clear hc
                  refine WL.rest 24 [3, 67] (L' := [(3, .slice Al3 l3.length cl3), (67, .bool true)]) (by kernel_rfl) ?_
                  refine QP.dropAt 2 ?_
                  refine QP.dropAt 1 ?_
                  refine QP.dropAt 0 ?_
                  refine QP.pick [3, 67] ?_
                  exact QP.meet ⟨_, Option.some.inj h, rfl, rfl, rfl⟩
                · replace hc := (Bool.eq_false_iff.1 hc)
                  rw [if_neg hc] at h
                  have hc38 := hc
                  clear hc
                  refine WL.pure 24 26 [3, 4, 5, 6, 54, 56] (L' := [(3, .slice Al3 l3.length cl3), (4, .pointer (some ⟨b1, 0, none⟩)), (5, .pointer (some ⟨b2, 0, none⟩)), (6, .pointer (some ⟨b3, 0, none⟩)), (54, .bool false), (56, .bool t24)]) (by kernel_rfl) (by decide) ?_
                  refine WL.split 56 (b := t24) (by kernel_rfl) (fun hc => ?_) (fun hc => ?_)
                  · replace hc := hc
                    rw [if_pos hc] at h
                    have hc39 := hc
                    clear hc
                    refine WL.tell (op := .load 27 (.tmp 5)) (ty := 27) (d := some 57) (g := some (25, true)) (by kernel_rfl) (by kernel_rfl) (by kernel_rfl) (Tells.load_box (i := 1) (b := b2) (o := 0) (agg := true) (by rfl) ag27 (by kernel_rfl) (fun h => by cases h) (Nat.le_of_ble_eq_true rfl) (v := .agg #[.int .i64 a1.f0, .int .i64 a1.f1, .int .i64 a1.f2, .int .i64 a1.f3, .string a1.f4]) (by kernel_rfl)) ?_
                    refine WL.tell (op := .load 27 (.tmp 6)) (ty := 27) (d := some 58) (g := some (25, true)) (by kernel_rfl) (by kernel_rfl) (by kernel_rfl) (Tells.load_box (i := 0) (b := b3) (o := 0) (agg := true) (by rfl) ag27 (by kernel_rfl) (fun h => by cases h) (Nat.le_of_ble_eq_true rfl) (v := .agg #[.int .i64 a2.f0, .int .i64 a2.f1, .int .i64 a2.f2, .int .i64 a2.f3, .string a2.f4]) (by kernel_rfl)) ?_
                    rw [Option.bind_eq_some_iff] at h
                    obtain ⟨t40, ht41, h⟩ := h
                    refine WL.op (op := .call { callee := (.value (.func 34)), args := #[(.tmp 57), (.tmp 58)], argTypes := #[27, 27] }) (ty := 4) (d := some 59) (g := some (25, true)) (by kernel_rfl) (by kernel_rfl) (by kernel_rfl) (Does.call (f := 34) (args := [.agg #[.int .i64 a1.f0, .int .i64 a1.f1, .int .i64 a1.f2, .int .i64 a1.f3, .string a1.f4], .agg #[.int .i64 a2.f0, .int .i64 a2.f1, .int .i64 a2.f2, .int .i64 a2.f3, .string a2.f4]]) (by kernel_rfl) (fun W hI => (record_Less_calls a1 a2  t40 ht41 hI))) ?_
                    rintro _ _ _ ⟨rfl, rfl, rfl⟩
                    refine WL.pure 29 31 [3, 4, 6, 54, 61] (L' := [(3, .slice Al3 l3.length cl3), (4, .pointer (some ⟨b1, 0, none⟩)), (6, .pointer (some ⟨b3, 0, none⟩)), (54, .bool false), (61, .bool t40)]) (by kernel_rfl) (by decide) ?_
                    refine WL.split 61 (b := t40) (by kernel_rfl) (fun hc => ?_) (fun hc => ?_)
                    · replace hc := hc
                      rw [if_pos hc] at h
                      have hc44 := hc
                      clear hc
                      refine WL.tell (op := .load 27 (.tmp 4)) (ty := 27) (d := some 62) (g := some (30, true)) (by kernel_rfl) (by kernel_rfl) (by kernel_rfl) (Tells.load_box (i := 2) (b := b1) (o := 0) (agg := true) (by rfl) ag27 (by kernel_rfl) (fun h => by cases h) (Nat.le_of_ble_eq_true rfl) (v := .agg #[.int .i64 a0.f0, .int .i64 a0.f1, .int .i64 a0.f2, .int .i64 a0.f3, .string a0.f4]) (by kernel_rfl)) ?_
                      refine WL.tell (op := .load 27 (.tmp 6)) (ty := 27) (d := some 63) (g := some (30, true)) (by kernel_rfl) (by kernel_rfl) (by kernel_rfl) (Tells.load_box (i := 0) (b := b3) (o := 0) (agg := true) (by rfl) ag27 (by kernel_rfl) (fun h => by cases h) (Nat.le_of_ble_eq_true rfl) (v := .agg #[.int .i64 a2.f0, .int .i64 a2.f1, .int .i64 a2.f2, .int .i64 a2.f3, .string a2.f4]) (by kernel_rfl)) ?_
                      rw [Option.bind_eq_some_iff] at h
                      obtain ⟨t45, ht46, h⟩ := h
                      refine WL.op (op := .call { callee := (.value (.func 34)), args := #[(.tmp 62), (.tmp 63)], argTypes := #[27, 27] }) (ty := 4) (d := some 64) (g := some (30, true)) (by kernel_rfl) (by kernel_rfl) (by kernel_rfl) (Does.call (f := 34) (args := [.agg #[.int .i64 a0.f0, .int .i64 a0.f1, .int .i64 a0.f2, .int .i64 a0.f3, .string a0.f4], .agg #[.int .i64 a2.f0, .int .i64 a2.f1, .int .i64 a2.f2, .int .i64 a2.f3, .string a2.f4]]) (by kernel_rfl) (fun W hI => (record_Less_calls a0 a2  t45 ht46 hI))) ?_
                      rintro _ _ _ ⟨rfl, rfl, rfl⟩
                      refine WL.rest 34 [3, 67] (L' := [(3, .slice Al3 l3.length cl3), (67, .bool (!t45))]) (by kernel_rfl) ?_
                      refine QP.dropAt 2 ?_
                      refine QP.dropAt 1 ?_
                      refine QP.dropAt 0 ?_
                      refine QP.pick [3, 67] ?_
                      exact QP.meet ⟨_, Option.some.inj h, rfl, rfl, rfl⟩
                    · replace hc := (Bool.eq_false_iff.1 hc)
                      rw [if_neg hc] at h
                      have hc44 := hc
                      clear hc
                      refine WL.rest 31 [3, 67] (L' := [(3, .slice Al3 l3.length cl3), (67, .bool false)]) (by kernel_rfl) ?_
                      refine QP.dropAt 2 ?_
                      refine QP.dropAt 1 ?_
                      refine QP.dropAt 0 ?_
                      refine QP.pick [3, 67] ?_
                      exact QP.meet ⟨_, Option.some.inj h, rfl, rfl, rfl⟩
                  · replace hc := (Bool.eq_false_iff.1 hc)
                    rw [if_neg hc] at h
                    have hc39 := hc
                    clear hc
                    refine WL.rest 26 [3, 67] (L' := [(3, .slice Al3 l3.length cl3), (67, .bool false)]) (by kernel_rfl) ?_
                    refine QP.dropAt 2 ?_
                    refine QP.dropAt 1 ?_
                    refine QP.dropAt 0 ?_
                    refine QP.pick [3, 67] ?_
                    exact QP.meet ⟨_, Option.some.inj h, rfl, rfl, rfl⟩
              · replace hc := of_decide_eq_false hc
                rw [if_neg hc] at h
                have hc37 := hc
                clear hc
                refine WL.pure 15 24 [3, 4, 5, 6, 9, 54] (L' := [(3, .slice Al3 l3.length cl3), (4, .pointer (some ⟨b1, 0, none⟩)), (5, .pointer (some ⟨b2, 0, none⟩)), (6, .pointer (some ⟨b3, 0, none⟩)), (9, .bool t24), (54, .bool (true == false))]) (by kernel_rfl) (by decide) ?_
                refine WL.split 54 (b := (true == false)) (by kernel_rfl) (fun hc => ?_) (fun hc => ?_)
                · replace hc := hc
                  rw [if_pos hc] at h
                  have hc49 := hc
                  clear hc
                  refine WL.rest 24 [3, 67] (L' := [(3, .slice Al3 l3.length cl3), (67, .bool true)]) (by kernel_rfl) ?_
                  refine QP.dropAt 2 ?_
                  refine QP.dropAt 1 ?_
                  refine QP.dropAt 0 ?_
                  refine QP.pick [3, 67] ?_
                  exact QP.meet ⟨_, Option.some.inj h, rfl, rfl, rfl⟩
                · replace hc := (Bool.eq_false_iff.1 hc)
                  rw [if_neg hc] at h
                  have hc49 := hc
                  clear hc
                  refine WL.pure 24 26 [3, 4, 5, 6, 54, 56] (L' := [(3, .slice Al3 l3.length cl3), (4, .pointer (some ⟨b1, 0, none⟩)), (5, .pointer (some ⟨b2, 0, none⟩)), (6, .pointer (some ⟨b3, 0, none⟩)), (54, .bool false), (56, .bool t24)]) (by kernel_rfl) (by decide) ?_
                  refine WL.split 56 (b := t24) (by kernel_rfl) (fun hc => ?_) (fun hc => ?_)
                  · replace hc := hc
                    rw [if_pos hc] at h
                    have hc50 := hc
                    clear hc
                    refine WL.tell (op := .load 27 (.tmp 5)) (ty := 27) (d := some 57) (g := some (25, true)) (by kernel_rfl) (by kernel_rfl) (by kernel_rfl) (Tells.load_box (i := 1) (b := b2) (o := 0) (agg := true) (by rfl) ag27 (by kernel_rfl) (fun h => by cases h) (Nat.le_of_ble_eq_true rfl) (v := .agg #[.int .i64 a1.f0, .int .i64 a1.f1, .int .i64 a1.f2, .int .i64 a1.f3, .string a1.f4]) (by kernel_rfl)) ?_
                    refine WL.tell (op := .load 27 (.tmp 6)) (ty := 27) (d := some 58) (g := some (25, true)) (by kernel_rfl) (by kernel_rfl) (by kernel_rfl) (Tells.load_box (i := 0) (b := b3) (o := 0) (agg := true) (by rfl) ag27 (by kernel_rfl) (fun h => by cases h) (Nat.le_of_ble_eq_true rfl) (v := .agg #[.int .i64 a2.f0, .int .i64 a2.f1, .int .i64 a2.f2, .int .i64 a2.f3, .string a2.f4]) (by kernel_rfl)) ?_
                    rw [Option.bind_eq_some_iff] at h
                    obtain ⟨t51, ht52, h⟩ := h
                    refine WL.op (op := .call { callee := (.value (.func 34)), args := #[(.tmp 57), (.tmp 58)], argTypes := #[27, 27] }) (ty := 4) (d := some 59) (g := some (25, true)) (by kernel_rfl) (by kernel_rfl) (by kernel_rfl) (Does.call (f := 34) (args := [.agg #[.int .i64 a1.f0, .int .i64 a1.f1, .int .i64 a1.f2, .int .i64 a1.f3, .string a1.f4], .agg #[.int .i64 a2.f0, .int .i64 a2.f1, .int .i64 a2.f2, .int .i64 a2.f3, .string a2.f4]]) (by kernel_rfl) (fun W hI => (record_Less_calls a1 a2  t51 ht52 hI))) ?_
                    rintro _ _ _ ⟨rfl, rfl, rfl⟩
                    refine WL.pure 29 31 [3, 4, 6, 54, 61] (L' := [(3, .slice Al3 l3.length cl3), (4, .pointer (some ⟨b1, 0, none⟩)), (6, .pointer (some ⟨b3, 0, none⟩)), (54, .bool false), (61, .bool t51)]) (by kernel_rfl) (by decide) ?_
                    refine WL.split 61 (b := t51) (by kernel_rfl) (fun hc => ?_) (fun hc => ?_)
                    · replace hc := hc
                      rw [if_pos hc] at h
                      have hc55 := hc
                      clear hc
                      refine WL.tell (op := .load 27 (.tmp 4)) (ty := 27) (d := some 62) (g := some (30, true)) (by kernel_rfl) (by kernel_rfl) (by kernel_rfl) (Tells.load_box (i := 2) (b := b1) (o := 0) (agg := true) (by rfl) ag27 (by kernel_rfl) (fun h => by cases h) (Nat.le_of_ble_eq_true rfl) (v := .agg #[.int .i64 a0.f0, .int .i64 a0.f1, .int .i64 a0.f2, .int .i64 a0.f3, .string a0.f4]) (by kernel_rfl)) ?_
                      refine WL.tell (op := .load 27 (.tmp 6)) (ty := 27) (d := some 63) (g := some (30, true)) (by kernel_rfl) (by kernel_rfl) (by kernel_rfl) (Tells.load_box (i := 0) (b := b3) (o := 0) (agg := true) (by rfl) ag27 (by kernel_rfl) (fun h => by cases h) (Nat.le_of_ble_eq_true rfl) (v := .agg #[.int .i64 a2.f0, .int .i64 a2.f1, .int .i64 a2.f2, .int .i64 a2.f3, .string a2.f4]) (by kernel_rfl)) ?_
                      rw [Option.bind_eq_some_iff] at h
                      obtain ⟨t56, ht57, h⟩ := h
                      refine WL.op (op := .call { callee := (.value (.func 34)), args := #[(.tmp 62), (.tmp 63)], argTypes := #[27, 27] }) (ty := 4) (d := some 64) (g := some (30, true)) (by kernel_rfl) (by kernel_rfl) (by kernel_rfl) (Does.call (f := 34) (args := [.agg #[.int .i64 a0.f0, .int .i64 a0.f1, .int .i64 a0.f2, .int .i64 a0.f3, .string a0.f4], .agg #[.int .i64 a2.f0, .int .i64 a2.f1, .int .i64 a2.f2, .int .i64 a2.f3, .string a2.f4]]) (by kernel_rfl) (fun W hI => (record_Less_calls a0 a2  t56 ht57 hI))) ?_
                      rintro _ _ _ ⟨rfl, rfl, rfl⟩
                      refine WL.rest 34 [3, 67] (L' := [(3, .slice Al3 l3.length cl3), (67, .bool (!t56))]) (by kernel_rfl) ?_
                      refine QP.dropAt 2 ?_
                      refine QP.dropAt 1 ?_
                      refine QP.dropAt 0 ?_
                      refine QP.pick [3, 67] ?_
                      exact QP.meet ⟨_, Option.some.inj h, rfl, rfl, rfl⟩
                    · replace hc := (Bool.eq_false_iff.1 hc)
                      rw [if_neg hc] at h
                      have hc55 := hc
                      clear hc
                      refine WL.rest 31 [3, 67] (L' := [(3, .slice Al3 l3.length cl3), (67, .bool false)]) (by kernel_rfl) ?_
                      refine QP.dropAt 2 ?_
                      refine QP.dropAt 1 ?_
                      refine QP.dropAt 0 ?_
                      refine QP.pick [3, 67] ?_
                      exact QP.meet ⟨_, Option.some.inj h, rfl, rfl, rfl⟩
                  · replace hc := (Bool.eq_false_iff.1 hc)
                    rw [if_neg hc] at h
                    have hc50 := hc
                    clear hc
                    refine WL.rest 26 [3, 67] (L' := [(3, .slice Al3 l3.length cl3), (67, .bool false)]) (by kernel_rfl) ?_
                    refine QP.dropAt 2 ?_
                    refine QP.dropAt 1 ?_
                    refine QP.dropAt 0 ?_
                    refine QP.pick [3, 67] ?_
                    exact QP.meet ⟨_, Option.some.inj h, rfl, rfl, rfl⟩
            · replace hc := (Bool.eq_false_iff.1 hc)
              rw [if_neg hc] at h
              have hc36 := hc
              clear hc
              refine WL.pure 7 10 [3, 4, 5, 6, 9, 35, 39, 40] (L' := [(3, .slice Al3 l3.length cl3), (4, .pointer (some ⟨b1, 0, none⟩)), (5, .pointer (some ⟨b2, 0, none⟩)), (6, .pointer (some ⟨b3, 0, none⟩)), (9, .bool t24), (35, .bool false), (39, .bool t28), (40, .pointer (some ⟨b1, 0, none⟩))]) (by kernel_rfl) (by decide) ?_
              refine WL.tell (op := .load 23 (.tmp 40)) (ty := 23) (d := some 41) (g := some (4, false)) (by kernel_rfl) (by kernel_rfl) (by kernel_rfl) (Tells.load_box (i := 2) (b := b1) (o := 0) (agg := true) (by rfl) ag23 (by kernel_rfl) (fun h => by cases h) (Nat.le_of_ble_eq_true rfl) (v := .agg #[.int .i64 a0.f0, .int .i64 a0.f1]) (by kernel_rfl)) ?_
              refine WL.pure 11 12 [3, 4, 5, 6, 9, 35, 39, 41, 42] (L' := [(3, .slice Al3 l3.length cl3), (4, .pointer (some ⟨b1, 0, none⟩)), (5, .pointer (some ⟨b2, 0, none⟩)), (6, .pointer (some ⟨b3, 0, none⟩)), (9, .bool t24), (35, .bool false), (39, .bool t28), (41, .agg #[.int .i64 a0.f0, .int .i64 a0.f1]), (42, .pointer (some ⟨b2, 0, none⟩))]) (by kernel_rfl) (by decide) ?_
              refine WL.tell (op := .load 23 (.tmp 42)) (ty := 23) (d := some 43) (g := some (4, false)) (by kernel_rfl) (by kernel_rfl) (by kernel_rfl) (Tells.load_box (i := 1) (b := b2) (o := 0) (agg := true) (by rfl) ag23 (by kernel_rfl) (fun h => by cases h) (Nat.le_of_ble_eq_true rfl) (v := .agg #[.int .i64 a1.f0, .int .i64 a1.f1]) (by kernel_rfl)) ?_
              refine WL.tell (op := .binOp .eql 23 (.tmp 41) (.tmp 43) 23) (ty := 4) (d := some 44) (g := some (4, false)) (by kernel_rfl) (by kernel_rfl) (by kernel_rfl) (Tells.eqAgg (xs := #[.int .i64 a0.f0, .int .i64 a0.f1]) (ys := #[.int .i64 a1.f0, .int .i64 a1.f1]) (ls := [.int a0.f0 a1.f0, .int a0.f1 a1.f1]) (by kernel_rfl) (by kernel_rfl) (by kernel_rfl) eg23) ?_
              refine WL.reput 44 (v := .bool ([.int a0.f0 a1.f0, .int a0.f1 a1.f1].all Lf.ok)) (v' := .bool (decide ((⟨a0.f0, a0.f1⟩ : T23) = (⟨a1.f0, a1.f1⟩ : T23)))) (by kernel_rfl) (by exact (congrArg Value.bool (eqT23 (⟨a0.f0, a0.f1⟩ : T23) (⟨a1.f0, a1.f1⟩ : T23)))) ?_
              refine WL.pure 14 15 [3, 4, 5, 6, 9, 35, 39, 45] (L' := [(3, .slice Al3 l3.length cl3), (4, .pointer (some ⟨b1, 0, none⟩)), (5, .pointer (some ⟨b2, 0, none⟩)), (6, .pointer (some ⟨b3, 0, none⟩)), (9, .bool t24), (35, .bool false), (39, .bool t28), (45, .bool (decide ((⟨a0.f0, a0.f1⟩ : T23) = (⟨a1.f0, a1.f1⟩ : T23))))]) (by kernel_rfl) (by decide) ?_
              refine WL.split 45 (b := decide ((⟨a0.f0, a0.f1⟩ : T23) = (⟨a1.f0, a1.f1⟩ : T23))) (by kernel_rfl) (fun hc => ?_) (fun hc => ?_)
              · replace hc := of_decide_eq_true hc
                rw [if_pos hc] at h
                have hc60 := hc
                clear hc
                refine WL.pure 15 16 [3, 4, 5, 6, 9, 35, 39, 45, 46] (L' := [(3, .slice Al3 l3.length cl3), (4, .pointer (some ⟨b1, 0, none⟩)), (5, .pointer (some ⟨b2, 0, none⟩)), (6, .pointer (some ⟨b3, 0, none⟩)), (9, .bool t24), (35, .bool false), (39, .bool t28), (45, .bool true), (46, .pointer (some ⟨b1, 2, none⟩))]) (by kernel_rfl) (by decide) ?_
                refine WL.tell (op := .load 25 (.tmp 46)) (ty := 25) (d := some 47) (g := some (14, true)) (by kernel_rfl) (by kernel_rfl) (by kernel_rfl) (Tells.load_box (i := 2) (b := b1) (o := 2) (agg := true) (by rfl) ag25 (by kernel_rfl) (fun h => by cases h) (Nat.le_of_ble_eq_true rfl) (v := .agg #[.int .i64 a0.f2, .int .i64 a0.f3]) (by kernel_rfl)) ?_
                refine WL.pure 17 18 [3, 4, 5, 6, 9, 35, 39, 45, 47, 48] (L' := [(3, .slice Al3 l3.length cl3), (4, .pointer (some ⟨b1, 0, none⟩)), (5, .pointer (some ⟨b2, 0, none⟩)), (6, .pointer (some ⟨b3, 0, none⟩)), (9, .bool t24), (35, .bool false), (39, .bool t28), (45, .bool true), (47, .agg #[.int .i64 a0.f2, .int .i64 a0.f3]), (48, .pointer (some ⟨b2, 2, none⟩))]) (by kernel_rfl) (by decide) ?_
                refine WL.tell (op := .load 25 (.tmp 48)) (ty := 25) (d := some 49) (g := some (14, true)) (by kernel_rfl) (by kernel_rfl) (by kernel_rfl) (Tells.load_box (i := 1) (b := b2) (o := 2) (agg := true) (by rfl) ag25 (by kernel_rfl) (fun h => by cases h) (Nat.le_of_ble_eq_true rfl) (v := .agg #[.int .i64 a1.f2, .int .i64 a1.f3]) (by kernel_rfl)) ?_
                refine WL.tell (op := .binOp .eql 25 (.tmp 47) (.tmp 49) 25) (ty := 4) (d := some 50) (g := some (14, true)) (by kernel_rfl) (by kernel_rfl) (by kernel_rfl) (Tells.eqAgg (xs := #[.int .i64 a0.f2, .int .i64 a0.f3]) (ys := #[.int .i64 a1.f2, .int .i64 a1.f3]) (ls := [.int a0.f2 a1.f2, .int a0.f3 a1.f3]) (by kernel_rfl) (by kernel_rfl) (by kernel_rfl) eg25) ?_
                refine WL.reput 50 (v := .bool ([.int a0.f2 a1.f2, .int a0.f3 a1.f3].all Lf.ok)) (v' := .bool (decide ((⟨a0.f2, a0.f3⟩ : T25) = (⟨a1.f2, a1.f3⟩ : T25)))) (by kernel_rfl) (by exact (congrArg Value.bool (eqT25 (⟨a0.f2, a0.f3⟩ : T25) (⟨a1.f2, a1.f3⟩ : T25)))) ?_
                refine WL.pure 20 24 [3, 4, 5, 6, 9, 54] (L' := [(3, .slice Al3 l3.length cl3), (4, .pointer (some ⟨b1, 0, none⟩)), (5, .pointer (some ⟨b2, 0, none⟩)), (6, .pointer (some ⟨b3, 0, none⟩)), (9, .bool t24), (54, .bool (t28 == (decide ((⟨a0.f2, a0.f3⟩ : T25) = (⟨a1.f2, a1.f3⟩ : T25)))))]) (by kernel_rfl) (by decide) ?_
                refine WL.split 54 (b := (t28 == (decide ((⟨a0.f2, a0.f3⟩ : T25) = (⟨a1.f2, a1.f3⟩ : T25))))) (by kernel_rfl) (fun hc => ?_) (fun hc => ?_)
                · replace hc := hc
                  rw [if_pos hc] at h
                  have hc61 := hc
                  clear hc
                  refine WL.rest 24 [3, 67] (L' := [(3, .slice Al3 l3.length cl3), (67, .bool true)]) (by kernel_rfl) ?_
                  refine QP.dropAt 2 ?_
                  refine QP.dropAt 1 ?_
                  refine QP.dropAt 0 ?_
                  refine QP.pick [3, 67] ?_
                  exact QP.meet ⟨_, Option.some.inj h, rfl, rfl, rfl⟩
                · replace hc := (Bool.eq_false_iff.1 hc)
                  rw [if_neg hc] at h
                  have hc61 := hc
                  clear hc
                  refine WL.pure 24 26 [3, 4, 5, 6, 54, 56] (L' := [(3, .slice Al3 l3.length cl3), (4, .pointer (some ⟨b1, 0, none⟩)), (5, .pointer (some ⟨b2, 0, none⟩)), (6, .pointer (some ⟨b3, 0, none⟩)), (54, .bool false), (56, .bool t24)]) (by kernel_rfl) (by decide) ?_
                  refine WL.split 56 (b := t24) (by kernel_rfl) (fun hc => ?_) (fun hc => ?_)
                  · replace hc := hc
                    rw [if_pos hc] at h
                    have hc62 := hc
                    clear hc
                    refine WL.tell (op := .load 27 (.tmp 5)) (ty := 27) (d := some 57) (g := some (25, true)) (by kernel_rfl) (by kernel_rfl) (by kernel_rfl) (Tells.load_box (i := 1) (b := b2) (o := 0) (agg := true) (by rfl) ag27 (by kernel_rfl) (fun h => by cases h) (Nat.le_of_ble_eq_true rfl) (v := .agg #[.int .i64 a1.f0, .int .i64 a1.f1, .int .i64 a1.f2, .int .i64 a1.f3, .string a1.f4]) (by kernel_rfl)) ?_
                    refine WL.tell (op := .load 27 (.tmp 6)) (ty := 27) (d := some 58) (g := some (25, true)) (by kernel_rfl) (by kernel_rfl) (by kernel_rfl) (Tells.load_box (i := 0) (b := b3) (o := 0) (agg := true) (by rfl) ag27 (by kernel_rfl) (fun h => by cases h) (Nat.le_of_ble_eq_true rfl) (v := .agg #[.int .i64 a2.f0, .int .i64 a2.f1, .int .i64 a2.f2, .int .i64 a2.f3, .string a2.f4]) (by kernel_rfl)) ?_
                    rw [Option.bind_eq_some_iff] at h
                    obtain ⟨t63, ht64, h⟩ := h
                    refine WL.op (op := .call { callee := (.value (.func 34)), args := #[(.tmp 57), (.tmp 58)], argTypes := #[27, 27] }) (ty := 4) (d := some 59) (g := some (25, true)) (by kernel_rfl) (by kernel_rfl) (by kernel_rfl) (Does.call (f := 34) (args := [.agg #[.int .i64 a1.f0, .int .i64 a1.f1, .int .i64 a1.f2, .int .i64 a1.f3, .string a1.f4], .agg #[.int .i64 a2.f0, .int .i64 a2.f1, .int .i64 a2.f2, .int .i64 a2.f3, .string a2.f4]]) (by kernel_rfl) (fun W hI => (record_Less_calls a1 a2  t63 ht64 hI))) ?_
                    rintro _ _ _ ⟨rfl, rfl, rfl⟩
                    refine WL.pure 29 31 [3, 4, 6, 54, 61] (L' := [(3, .slice Al3 l3.length cl3), (4, .pointer (some ⟨b1, 0, none⟩)), (6, .pointer (some ⟨b3, 0, none⟩)), (54, .bool false), (61, .bool t63)]) (by kernel_rfl) (by decide) ?_
                    refine WL.split 61 (b := t63) (by kernel_rfl) (fun hc => ?_) (fun hc => ?_)
                    · replace hc := hc
                      rw [if_pos hc] at h
                      have hc67 := hc
                      clear hc
                      refine WL.tell (op := .load 27 (.tmp 4)) (ty := 27) (d := some 62) (g := some (30, true)) (by kernel_rfl) (by kernel_rfl) (by kernel_rfl) (Tells.load_box (i := 2) (b := b1) (o := 0) (agg := true) (by rfl) ag27 (by kernel_rfl) (fun h => by cases h) (Nat.le_of_ble_eq_true rfl) (v := .agg #[.int .i64 a0.f0, .int .i64 a0.f1, .int .i64 a0.f2, .int .i64 a0.f3, .string a0.f4]) (by kernel_rfl)) ?_
                      refine WL.tell (op := .load 27 (.tmp 6)) (ty := 27) (d := some 63) (g := some (30, true)) (by kernel_rfl) (by kernel_rfl) (by kernel_rfl) (Tells.load_box (i := 0) (b := b3) (o := 0) (agg := true) (by rfl) ag27 (by kernel_rfl) (fun h => by cases h) (Nat.le_of_ble_eq_true rfl) (v := .agg #[.int .i64 a2.f0, .int .i64 a2.f1, .int .i64 a2.f2, .int .i64 a2.f3, .string a2.f4]) (by kernel_rfl)) ?_
                      rw [Option.bind_eq_some_iff] at h
                      obtain ⟨t68, ht69, h⟩ := h
                      refine WL.op (op := .call { callee := (.value (.func 34)), args := #[(.tmp 62), (.tmp 63)], argTypes := #[27, 27] }) (ty := 4) (d := some 64) (g := some (30, true)) (by kernel_rfl) (by kernel_rfl) (by kernel_rfl) (Does.call (f := 34) (args := [.agg #[.int .i64 a0.f0, .int .i64 a0.f1, .int .i64 a0.f2, .int .i64 a0.f3, .string a0.f4], .agg #[.int .i64 a2.f0, .int .i64 a2.f1, .int .i64 a2.f2, .int .i64 a2.f3, .string a2.f4]]) (by kernel_rfl) (fun W hI => (record_Less_calls a0 a2  t68 ht69 hI))) ?_
                      rintro _ _ _ ⟨rfl, rfl, rfl⟩
                      refine WL.rest 34 [3, 67] (L' := [(3, .slice Al3 l3.length cl3), (67, .bool (!t68))]) (by kernel_rfl) ?_
                      refine QP.dropAt 2 ?_
                      refine QP.dropAt 1 ?_
                      refine QP.dropAt 0 ?_
                      refine QP.pick [3, 67] ?_
                      exact QP.meet ⟨_, Option.some.inj h, rfl, rfl, rfl⟩
                    · replace hc := (Bool.eq_false_iff.1 hc)
                      rw [if_neg hc] at h
                      have hc67 := hc
                      clear hc
                      refine WL.rest 31 [3, 67] (L' := [(3, .slice Al3 l3.length cl3), (67, .bool false)]) (by kernel_rfl) ?_
                      refine QP.dropAt 2 ?_
                      refine QP.dropAt 1 ?_
                      refine QP.dropAt 0 ?_
                      refine QP.pick [3, 67] ?_
                      exact QP.meet ⟨_, Option.some.inj h, rfl, rfl, rfl⟩
                  · replace hc := (Bool.eq_false_iff.1 hc)
                    rw [if_neg hc] at h
                    have hc62 := hc
                    clear hc
                    refine WL.rest 26 [3, 67] (L' := [(3, .slice Al3 l3.length cl3), (67, .bool false)]) (by kernel_rfl) ?_
                    refine QP.dropAt 2 ?_
                    refine QP.dropAt 1 ?_
                    refine QP.dropAt 0 ?_
                    refine QP.pick [3, 67] ?_
                    exact QP.meet ⟨_, Option.some.inj h, rfl, rfl, rfl⟩
              · replace hc := of_decide_eq_false hc
                rw [if_neg hc] at h
                have hc60 := hc
                clear hc
                refine WL.pure 15 24 [3, 4, 5, 6, 9, 54] (L' := [(3, .slice Al3 l3.length cl3), (4, .pointer (some ⟨b1, 0, none⟩)), (5, .pointer (some ⟨b2, 0, none⟩)), (6, .pointer (some ⟨b3, 0, none⟩)), (9, .bool t24), (54, .bool (t28 == false))]) (by kernel_rfl) (by decide) ?_
                refine WL.split 54 (b := (t28 == false)) (by kernel_rfl) (fun hc => ?_) (fun hc => ?_)
                · replace hc := hc
                  rw [if_pos hc] at h
                  have hc72 := hc
                  clear hc
                  refine WL.rest 24 [3, 67] (L' := [(3, .slice Al3 l3.length cl3), (67, .bool true)]) (by kernel_rfl) ?_
                  refine QP.dropAt 2 ?_
                  refine QP.dropAt 1 ?_
                  refine QP.dropAt 0 ?_
                  refine QP.pick [3, 67] ?_
                  exact QP.meet ⟨_, Option.some.inj h, rfl, rfl, rfl⟩
                · replace hc := (Bool.eq_false_iff.1 hc)
                  rw [if_neg hc] at h
                  have hc72 := hc
                  clear hc
                  refine WL.pure 24 26 [3, 4, 5, 6, 54, 56] (L' := [(3, .slice Al3 l3.length cl3), (4, .pointer (some ⟨b1, 0, none⟩)), (5, .pointer (some ⟨b2, 0, none⟩)), (6, .pointer (some ⟨b3, 0, none⟩)), (54, .bool false), (56, .bool t24)]) (by kernel_rfl) (by decide) ?_
                  refine WL.split 56 (b := t24) (by kernel_rfl) (fun hc => ?_) (fun hc => ?_)
                  · replace hc := hc
                    rw [if_pos hc] at h
                    have hc73 := hc
                    clear hc
                    refine WL.tell (op := .load 27 (.tmp 5)) (ty := 27) (d := some 57) (g := some (25, true)) (by kernel_rfl) (by kernel_rfl) (by kernel_rfl) (Tells.load_box (i := 1) (b := b2) (o := 0) (agg := true) (by rfl) ag27 (by kernel_rfl) (fun h => by cases h) (Nat.le_of_ble_eq_true rfl) (v := .agg #[.int .i64 a1.f0, .int .i64 a1.f1, .int .i64 a1.f2, .int .i64 a1.f3, .string a1.f4]) (by kernel_rfl)) ?_
                    refine WL.tell (op := .load 27 (.tmp 6)) (ty := 27) (d := some 58) (g := some (25, true)) (by kernel_rfl) (by kernel_rfl) (by kernel_rfl) (Tells.load_box (i := 0) (b := b3) (o := 0) (agg := true) (by rfl) ag27 (by kernel_rfl) (fun h => by cases h) (Nat.le_of_ble_eq_true rfl) (v := .agg #[.int .i64 a2.f0, .int .i64 a2.f1, .int .i64 a2.f2, .int .i64 a2.f3, .string a2.f4]) (by kernel_rfl)) ?_
                    rw [Option.bind_eq_some_iff] at h
                    obtain ⟨t74, ht75, h⟩ := h
                    refine WL.op (op := .call { callee := (.value (.func 34)), args := #[(.tmp 57), (.tmp 58)], argTypes := #[27, 27] }) (ty := 4) (d := some 59) (g := some (25, true)) (by kernel_rfl) (by kernel_rfl) (by kernel_rfl) (Does.call (f := 34) (args := [.agg #[.int .i64 a1.f0, .int .i64 a1.f1, .int .i64 a1.f2, .int .i64 a1.f3, .string a1.f4], .agg #[.int .i64 a2.f0, .int .i64 a2.f1, .int .i64 a2.f2, .int .i64 a2.f3, .string a2.f4]]) (by kernel_rfl) (fun W hI => (record_Less_calls a1 a2  t74 ht75 hI))) ?_
                    rintro _ _ _ ⟨rfl, rfl, rfl⟩
                    refine WL.pure 29 31 [3, 4, 6, 54, 61] (L' := [(3, .slice Al3 l3.length cl3), (4, .pointer (some ⟨b1, 0, none⟩)), (6, .pointer (some ⟨b3, 0, none⟩)), (54, .bool false), (61, .bool t74)]) (by kernel_rfl) (by decide) ?_
                    refine WL.split 61 (b := t74) (by kernel_rfl) (fun hc => ?_) (fun hc => ?_)
                    · replace hc := hc
                      rw [if_pos hc] at h
                      have hc78 := hc
                      clear hc
                      refine WL.tell (op := .load 27 (.tmp 4)) (ty := 27) (d := some 62) (g := some (30, true)) (by kernel_rfl) (by kernel_rfl) (by kernel_rfl) (Tells.load_box (i := 2) (b := b1) (o := 0) (agg := true) (by rfl) ag27 (by kernel_rfl) (fun h => by cases h) (Nat.le_of_ble_eq_true rfl) (v := .agg #[.int .i64 a0.f0, .int .i64 a0.f1, .int .i64 a0.f2, .int .i64 a0.f3, .string a0.f4]) (by kernel_rfl)) ?_
                      refine WL.tell (op := .load 27 (.tmp 6)) (ty := 27) (d := some 63) (g := some (30, true)) (by kernel_rfl) (by kernel_rfl) (by kernel_rfl) (Tells.load_box (i := 0) (b := b3) (o := 0) (agg := true) (by rfl) ag27 (by kernel_rfl) (fun h => by cases h) (Nat.le_of_ble_eq_true rfl) (v := .agg #[.int .i64 a2.f0, .int .i64 a2.f1, .int .i64 a2.f2, .int .i64 a2.f3, .string a2.f4]) (by kernel_rfl)) ?_
                      rw [Option.bind_eq_some_iff] at h
                      obtain ⟨t79, ht80, h⟩ := h
                      refine WL.op (op := .call { callee := (.value (.func 34)), args := #[(.tmp 62), (.tmp 63)], argTypes := #[27, 27] }) (ty := 4) (d := some 64) (g := some (30, true)) (by kernel_rfl) (by kernel_rfl) (by kernel_rfl) (Does.call (f := 34) (args := [.agg #[.int .i64 a0.f0, .int .i64 a0.f1, .int .i64 a0.f2, .int .i64 a0.f3, .string a0.f4], .agg #[.int .i64 a2.f0, .int .i64 a2.f1, .int .i64 a2.f2, .int .i64 a2.f3, .string a2.f4]]) (by kernel_rfl) (fun W hI => (record_Less_calls a0 a2  t79 ht80 hI))) ?_
                      rintro _ _ _ ⟨rfl, rfl, rfl⟩
                      refine WL.rest 34 [3, 67] (L' := [(3, .slice Al3 l3.length cl3), (67, .bool (!t79))]) (by kernel_rfl) ?_
                      refine QP.dropAt 2 ?_
                      refine QP.dropAt 1 ?_
                      refine QP.dropAt 0 ?_
                      refine QP.pick [3, 67] ?_
                      exact QP.meet ⟨_, Option.some.inj h, rfl, rfl, rfl⟩
                    · replace hc := (Bool.eq_false_iff.1 hc)
                      rw [if_neg hc] at h
                      have hc78 := hc
                      clear hc
                      refine WL.rest 31 [3, 67] (L' := [(3, .slice Al3 l3.length cl3), (67, .bool false)]) (by kernel_rfl) ?_
                      refine QP.dropAt 2 ?_
                      refine QP.dropAt 1 ?_
                      refine QP.dropAt 0 ?_
                      refine QP.pick [3, 67] ?_
                      exact QP.meet ⟨_, Option.some.inj h, rfl, rfl, rfl⟩
                  · replace hc := (Bool.eq_false_iff.1 hc)
                    rw [if_neg hc] at h
                    have hc73 := hc
                    clear hc
                    refine WL.rest 26 [3, 67] (L' := [(3, .slice Al3 l3.length cl3), (67, .bool false)]) (by kernel_rfl) ?_
                    refine QP.dropAt 2 ?_
                    refine QP.dropAt 1 ?_
                    refine QP.dropAt 0 ?_
                    refine QP.pick [3, 67] ?_
                    exact QP.meet ⟨_, Option.some.inj h, rfl, rfl, rfl⟩
        · replace hc := (Bool.eq_false_iff.1 hc)
          rw [if_neg hc] at h
          have hc34 := hc
          clear hc
          refine WL.pure 2 7 [3, 4, 5, 6, 9, 10, 35, 37] (L' := [(3, .slice Al3 l3.length cl3), (4, .pointer (some ⟨b1, 0, none⟩)), (5, .pointer (some ⟨b2, 0, none⟩)), (6, .pointer (some ⟨b3, 0, none⟩)), (9, .bool t24), (10, .bool t28), (35, .bool false), (37, .bool t24)]) (by kernel_rfl) (by decide) ?_
          refine WL.split 37 (b := t24) (by kernel_rfl) (fun hc => ?_) (fun hc => ?_)
          · replace hc := hc
            rw [if_pos hc] at h
            have hc83 := hc
            clear hc
            refine WL.pure 7 10 [3, 4, 5, 6, 9, 35, 39, 40] (L' := [(3, .slice Al3 l3.length cl3), (4, .pointer (some ⟨b1, 0, none⟩)), (5, .pointer (some ⟨b2, 0, none⟩)), (6, .pointer (some ⟨b3, 0, none⟩)), (9, .bool t24), (35, .bool false), (39, .bool true), (40, .pointer (some ⟨b1, 0, none⟩))]) (by kernel_rfl) (by decide) ?_
            refine WL.tell (op := .load 23 (.tmp 40)) (ty := 23) (d := some 41) (g := some (4, false)) (by kernel_rfl) (by kernel_rfl) (by kernel_rfl) (Tells.load_box (i := 2) (b := b1) (o := 0) (agg := true) (by rfl) ag23 (by kernel_rfl) (fun h => by cases h) (Nat.le_of_ble_eq_true rfl) (v := .agg #[.int .i64 a0.f0, .int .i64 a0.f1]) (by kernel_rfl)) ?_
            refine WL.pure 11 12 [3, 4, 5, 6, 9, 35, 39, 41, 42] (L' := [(3, .slice Al3 l3.length cl3), (4, .pointer (some ⟨b1, 0, none⟩)), (5, .pointer (some ⟨b2, 0, none⟩)), (6, .pointer (some ⟨b3, 0, none⟩)), (9, .bool t24), (35, .bool false), (39, .bool true), (41, .agg #[.int .i64 a0.f0, .int .i64 a0.f1]), (42, .pointer (some ⟨b2, 0, none⟩))]) (by kernel_rfl) (by decide) ?_
            refine WL.tell (op := .load 23 (.tmp 42)) (ty := 23) (d := some 43) (g := some (4, false)) (by kernel_rfl) (by kernel_rfl) (by kernel_rfl) (Tells.load_box (i := 1) (b := b2) (o := 0) (agg := true) (by rfl) ag23 (by kernel_rfl) (fun h => by cases h) (Nat.le_of_ble_eq_true rfl) (v := .agg #[.int .i64 a1.f0, .int .i64 a1.f1]) (by kernel_rfl)) ?_
            refine WL.tell (op := .binOp .eql 23 (.tmp 41) (.tmp 43) 23) (ty := 4) (d := some 44) (g := some (4, false)) (by kernel_rfl) (by kernel_rfl) (by kernel_rfl) (Tells.eqAgg (xs := #[.int .i64 a0.f0, .int .i64 a0.f1]) (ys := #[.int .i64 a1.f0, .int .i64 a1.f1]) (ls := [.int a0.f0 a1.f0, .int a0.f1 a1.f1]) (by kernel_rfl) (by kernel_rfl) (by kernel_rfl) eg23) ?_
            refine WL.reput 44 (v := .bool ([.int a0.f0 a1.f0, .int a0.f1 a1.f1].all Lf.ok)) (v' := .bool (decide ((⟨a0.f0, a0.f1⟩ : T23) = (⟨a1.f0, a1.f1⟩ : T23)))) (by kernel_rfl) (by exact (congrArg Value.bool (eqT23 (⟨a0.f0, a0.f1⟩ : T23) (⟨a1.f0, a1.f1⟩ : T23)))) ?_
            refine WL.pure 14 15 [3, 4, 5, 6, 9, 35, 39, 45] (L' := [(3, .slice Al3 l3.length cl3), (4, .pointer (some ⟨b1, 0, none⟩)), (5, .pointer (some ⟨b2, 0, none⟩)), (6, .pointer (some ⟨b3, 0, none⟩)), (9, .bool t24), (35, .bool false), (39, .bool true), (45, .bool (decide ((⟨a0.f0, a0.f1⟩ : T23) = (⟨a1.f0, a1.f1⟩ : T23))))]) (by kernel_rfl) (by decide) ?_
            refine WL.split 45 (b := decide ((⟨a0.f0, a0.f1⟩ : T23) = (⟨a1.f0, a1.f1⟩ : T23))) (by kernel_rfl) (fun hc => ?_) (fun hc => ?_)
            · replace hc := of_decide_eq_true hc
              rw [if_pos hc] at h
              have hc84 := hc
              clear hc
              refine WL.pure 15 16 [3, 4, 5, 6, 9, 35, 39, 45, 46] (L' := [(3, .slice Al3 l3.length cl3), (4, .pointer (some ⟨b1, 0, none⟩)), (5, .pointer (some ⟨b2, 0, none⟩)), (6, .pointer (some ⟨b3, 0, none⟩)), (9, .bool t24), (35, .bool false), (39, .bool true), (45, .bool true), (46, .pointer (some ⟨b1, 2, none⟩))]) (by kernel_rfl) (by decide) ?_
              refine WL.tell (op := .load 25 (.tmp 46)) (ty := 25) (d := some 47) (g := some (14, true)) (by kernel_rfl) (by kernel_rfl) (by kernel_rfl) (Tells.load_box (i := 2) (b := b1) (o := 2) (agg := true) (by rfl) ag25 (by kernel_rfl) (fun h => by cases h) (Nat.le_of_ble_eq_true rfl) (v := .agg #[.int .i64 a0.f2, .int .i64 a0.f3]) (by kernel_rfl)) ?_
              refine WL.pure 17 18 [3, 4, 5, 6, 9, 35, 39, 45, 47, 48] (L' := [(3, .slice Al3 l3.length cl3), (4, .pointer (some ⟨b1, 0, none⟩)), (5, .pointer (some ⟨b2, 0, none⟩)), (6, .pointer (some ⟨b3, 0, none⟩)), (9, .bool t24), (35, .bool false), (39, .bool true), (45, .bool true), (47, .agg #[.int .i64 a0.f2, .int .i64 a0.f3]), (48, .pointer (some ⟨b2, 2, none⟩))]) (by kernel_rfl) (by decide) ?_
              refine WL.tell (op := .load 25 (.tmp 48)) (ty := 25) (d := some 49) (g := some (14, true)) (by kernel_rfl) (by kernel_rfl) (by kernel_rfl) (Tells.load_box (i := 1) (b := b2) (o := 2) (agg := true) (by rfl) ag25 (by kernel_rfl) (fun h => by cases h) (Nat.le_of_ble_eq_true rfl) (v := .agg #[.int .i64 a1.f2, .int .i64 a1.f3]) (by kernel_rfl)) ?_
              refine WL.tell (op := .binOp .eql 25 (.tmp 47) (.tmp 49) 25) (ty := 4) (d := some 50) (g := some (14, true)) (by kernel_rfl) (by kernel_rfl) (by kernel_rfl) (Tells.eqAgg (xs := #[.int .i64 a0.f2, .int .i64 a0.f3]) (ys := #[.int .i64 a1.f2, .int .i64 a1.f3]) (ls := [.int a0.f2 a1.f2, .int a0.f3 a1.f3]) (by kernel_rfl) (by kernel_rfl) (by kernel_rfl) eg25) ?_
              refine WL.reput 50 (v := .bool ([.int a0.f2 a1.f2, .int a0.f3 a1.f3].all Lf.ok)) (v' := .bool (decide ((⟨a0.f2, a0.f3⟩ : T25) = (⟨a1.f2, a1.f3⟩ : T25)))) (by kernel_rfl) (by exact (congrArg Value.bool (eqT25 (⟨a0.f2, a0.f3⟩ : T25) (⟨a1.f2, a1.f3⟩ : T25)))) ?_
              refine WL.pure 20 24 [3, 4, 5, 6, 9, 54] (L' := [(3, .slice Al3 l3.length cl3), (4, .pointer (some ⟨b1, 0, none⟩)), (5, .pointer (some ⟨b2, 0, none⟩)), (6, .pointer (some ⟨b3, 0, none⟩)), (9, .bool t24), (54, .bool (true == (decide ((⟨a0.f2, a0.f3⟩ : T25) = (⟨a1.f2, a1.f3⟩ : T25)))))]) (by kernel_rfl) (by decide) ?_
              refine WL.split 54 (b := (true == (decide ((⟨a0.f2, a0.f3⟩ : T25) = (⟨a1.f2, a1.f3⟩ : T25))))) (by kernel_rfl) (fun hc => ?_) (fun hc => ?_)
              · replace hc := hc
                rw [if_pos hc] at h
                have hc85 := hc
                clear hc
                refine WL.rest 24 [3, 67] (L' := [(3, .slice Al3 l3.length cl3), (67, .bool true)]) (by kernel_rfl) ?_
                refine QP.dropAt 2 ?_
                refine QP.dropAt 1 ?_
                refine QP.dropAt 0 ?_
                refine QP.pick [3, 67] ?_
                exact QP.meet ⟨_, Option.some.inj h, rfl, rfl, rfl⟩
              · replace hc := (Bool.eq_false_iff.1 hc)
                rw [if_neg hc] at h
                have hc85 := hc
                clear hc
                refine WL.pure 24 26 [3, 4, 5, 6, 54, 56] (L' := [(3, .slice Al3 l3.length cl3), (4, .pointer (some ⟨b1, 0, none⟩)), (5, .pointer (some ⟨b2, 0, none⟩)), (6, .pointer (some ⟨b3, 0, none⟩)), (54, .bool false), (56, .bool t24)]) (by kernel_rfl) (by decide) ?_
                refine WL.split 56 (b := t24) (by kernel_rfl) (fun hc => ?_) (fun hc => ?_)
                · replace hc := hc
                  rw [if_pos hc] at h
                  have hc86 := hc
                  clear hc
                  refine WL.tell (op := .load 27 (.tmp 5)) (ty := 27) (d := some 57) (g := some (25, true)) (by kernel_rfl) (by kernel_rfl) (by kernel_rfl) (Tells.load_box (i := 1) (b := b2) (o := 0) (agg := true) (by rfl) ag27 (by kernel_rfl) (fun h => by cases h) (Nat.le_of_ble_eq_true rfl) (v := .agg #[.int .i64 a1.f0, .int .i64 a1.f1, .int .i64 a1.f2, .int .i64 a1.f3, .string a1.f4]) (by kernel_rfl)) ?_
                  refine WL.tell (op := .load 27 (.tmp 6)) (ty := 27) (d := some 58) (g := some (25, true)) (by kernel_rfl) (by kernel_rfl) (by kernel_rfl) (Tells.load_box (i := 0) (b := b3) (o := 0) (agg := true) (by rfl) ag27 (by kernel_rfl) (fun h => by cases h) (Nat.le_of_ble_eq_true rfl) (v := .agg #[.int .i64 a2.f0, .int .i64 a2.f1, .int .i64 a2.f2, .int .i64 a2.f3, .string a2.f4]) (by kernel_rfl)) ?_
                  rw [Option.bind_eq_some_iff] at h
                  obtain ⟨t87, ht88, h⟩ := h
                  refine WL.op (op := .call { callee := (.value (.func 34)), args := #[(.tmp 57), (.tmp 58)], argTypes := #[27, 27] }) (ty := 4) (d := some 59) (g := some (25, true)) (by kernel_rfl) (by kernel_rfl) (by kernel_rfl) (Does.call (f := 34) (args := [.agg #[.int .i64 a1.f0, .int .i64 a1.f1, .int .i64 a1.f2, .int .i64 a1.f3, .string a1.f4], .agg #[.int .i64 a2.f0, .int .i64 a2.f1, .int .i64 a2.f2, .int .i64 a2.f3, .string a2.f4]]) (by kernel_rfl) (fun W hI => (record_Less_calls a1 a2  t87 ht88 hI))) ?_
                  rintro _ _ _ ⟨rfl, rfl, rfl⟩
                  refine WL.pure 29 31 [3, 4, 6, 54, 61] (L' := [(3, .slice Al3 l3.length cl3), (4, .pointer (some ⟨b1, 0, none⟩)), (6, .pointer (some ⟨b3, 0, none⟩)), (54, .bool false), (61, .bool t87)]) (by kernel_rfl) (by decide) ?_
                  refine WL.split 61 (b := t87) (by kernel_rfl) (fun hc => ?_) (fun hc => ?_)
                  · replace hc := hc
                    rw [if_pos hc] at h
                    have hc91 := hc
                    clear hc
                    refine WL.tell (op := .load 27 (.tmp 4)) (ty := 27) (d := some 62) (g := some (30, true)) (by kernel_rfl) (by kernel_rfl) (by kernel_rfl) (Tells.load_box (i := 2) (b := b1) (o := 0) (agg := true) (by rfl) ag27 (by kernel_rfl) (fun h => by cases h) (Nat.le_of_ble_eq_true rfl) (v := .agg #[.int .i64 a0.f0, .int .i64 a0.f1, .int .i64 a0.f2, .int .i64 a0.f3, .string a0.f4]) (by kernel_rfl)) ?_
                    refine WL.tell (op := .load 27 (.tmp 6)) (ty := 27) (d := some 63) (g := some (30, true)) (by kernel_rfl) (by kernel_rfl) (by kernel_rfl) (Tells.load_box (i := 0) (b := b3) (o := 0) (agg := true) (by rfl) ag27 (by kernel_rfl) (fun h => by cases h) (Nat.le_of_ble_eq_true rfl) (v := .agg #[.int .i64 a2.f0, .int .i64 a2.f1, .int .i64 a2.f2, .int .i64 a2.f3, .string a2.f4]) (by kernel_rfl)) ?_
                    rw [Option.bind_eq_some_iff] at h
                    obtain ⟨t92, ht93, h⟩ := h
                    refine WL.op (op := .call { callee := (.value (.func 34)), args := #[(.tmp 62), (.tmp 63)], argTypes := #[27, 27] }) (ty := 4) (d := some 64) (g := some (30, true)) (by kernel_rfl) (by kernel_rfl) (by kernel_rfl) (Does.call (f := 34) (args := [.agg #[.int .i64 a0.f0, .int .i64 a0.f1, .int .i64 a0.f2, .int .i64 a0.f3, .string a0.f4], .agg #[.int .i64 a2.f0, .int .i64 a2.f1, .int .i64 a2.f2, .int .i64 a2.f3, .string a2.f4]]) (by kernel_rfl) (fun W hI => (record_Less_calls a0 a2  t92 ht93 hI))) ?_
                    rintro _ _ _ ⟨rfl, rfl, rfl⟩
                    refine WL.rest 34 [3, 67] (L' := [(3, .slice Al3 l3.length cl3), (67, .bool (!t92))]) (by kernel_rfl) ?_
                    refine QP.dropAt 2 ?_
                    refine QP.dropAt 1 ?_
                    refine QP.dropAt 0 ?_
                    refine QP.pick [3, 67] ?_
                    exact QP.meet ⟨_, Option.some.inj h, rfl, rfl, rfl⟩
                  · replace hc := (Bool.eq_false_iff.1 hc)
                    rw [if_neg hc] at h
                    have hc91 := hc
                    clear hc
                    refine WL.rest 31 [3, 67] (L' := [(3, .slice Al3 l3.length cl3), (67, .bool false)]) (by kernel_rfl) ?_
                    refine QP.dropAt 2 ?_
                    refine QP.dropAt 1 ?_
                    refine QP.dropAt 0 ?_
                    refine QP.pick [3, 67] ?_
                    exact QP.meet ⟨_, Option.some.inj h, rfl, rfl, rfl⟩
                · replace hc := (Bool.eq_false_iff.1 hc)
                  rw [if_neg hc] at h
                  have hc86 := hc
                  clear hc
                  refine WL.rest 26 [3, 67] (L' := [(3, .slice Al3 l3.length cl3), (67, .bool false)]) (by kernel_rfl) ?_
                  refine QP.dropAt 2 ?_
                  refine QP.dropAt 1 ?_
                  refine QP.dropAt 0 ?_
                  refine QP.pick [3, 67] ?_
                  exact QP.meet ⟨_, Option.some.inj h, rfl, rfl, rfl⟩
            · replace hc := of_decide_eq_false hc
              rw [if_neg hc] at h
              have hc84 := hc
              clear hc
              refine WL.pure 15 24 [3, 4, 5, 6, 9, 54] (L' := [(3, .slice Al3 l3.length cl3), (4, .pointer (some ⟨b1, 0, none⟩)), (5, .pointer (some ⟨b2, 0, none⟩)), (6, .pointer (some ⟨b3, 0, none⟩)), (9, .bool t24), (54, .bool (true == false))]) (by kernel_rfl) (by decide) ?_
              refine WL.split 54 (b := (true == false)) (by kernel_rfl) (fun hc => ?_) (fun hc => ?_)
              · replace hc := hc
                rw [if_pos hc] at h
                have hc96 := hc
                clear hc
                refine WL.rest 24 [3, 67] (L' := [(3, .slice Al3 l3.length cl3), (67, .bool true)]) (by kernel_rfl) ?_
                refine QP.dropAt 2 ?_
                refine QP.dropAt 1 ?_
                refine QP.dropAt 0 ?_
                refine QP.pick [3, 67] ?_
                exact QP.meet ⟨_, Option.some.inj h, rfl, rfl, rfl⟩
              · replace hc := (Bool.eq_false_iff.1 hc)
                rw [if_neg hc] at h
                have hc96 := hc
                clear hc
                refine WL.pure 24 26 [3, 4, 5, 6, 54, 56] (L' := [(3, .slice Al3 l3.length cl3), (4, .pointer (some ⟨b1, 0, none⟩)), (5, .pointer (some ⟨b2, 0, none⟩)), (6, .pointer (some ⟨b3, 0, none⟩)), (54, .bool false), (56, .bool t24)]) (by kernel_rfl) (by decide) ?_
                refine WL.split 56 (b := t24) (by kernel_rfl) (fun hc => ?_) (fun hc => ?_)
                · replace hc := hc
                  rw [if_pos hc] at h
                  have hc97 := hc
                  clear hc
                  refine WL.tell (op := .load 27 (.tmp 5)) (ty := 27) (d := some 57) (g := some (25, true)) (by kernel_rfl) (by kernel_rfl) (by kernel_rfl) (Tells.load_box (i := 1) (b := b2) (o := 0) (agg := true) (by rfl) ag27 (by kernel_rfl) (fun h => by cases h) (Nat.le_of_ble_eq_true rfl) (v := .agg #[.int .i64 a1.f0, .int .i64 a1.f1, .int .i64 a1.f2, .int .i64 a1.f3, .string a1.f4]) (by kernel_rfl)) ?_
                  refine WL.tell (op := .load 27 (.tmp 6)) (ty := 27) (d := some 58) (g := some (25, true)) (by kernel_rfl) (by kernel_rfl) (by kernel_rfl) (Tells.load_box (i := 0) (b := b3) (o := 0) (agg := true) (by rfl) ag27 (by kernel_rfl) (fun h => by cases h) (Nat.le_of_ble_eq_true rfl) (v := .agg #[.int .i64 a2.f0, .int .i64 a2.f1, .int .i64 a2.f2, .int .i64 a2.f3, .string a2.f4]) (by kernel_rfl)) ?_
                  rw [Option.bind_eq_some_iff] at h
                  obtain ⟨t98, ht99, h⟩ := h
                  refine WL.op (op := .call { callee := (.value (.func 34)), args := #[(.tmp 57), (.tmp 58)], argTypes := #[27, 27] }) (ty := 4) (d := some 59) (g := some (25, true)) (by kernel_rfl) (by kernel_rfl) (by kernel_rfl) (Does.call (f := 34) (args := [.agg #[.int .i64 a1.f0, .int .i64 a1.f1, .int .i64 a1.f2, .int .i64 a1.f3, .string a1.f4], .agg #[.int .i64 a2.f0, .int .i64 a2.f1, .int .i64 a2.f2, .int .i64 a2.f3, .string a2.f4]]) (by kernel_rfl) (fun W hI => (record_Less_calls a1 a2  t98 ht99 hI))) ?_
                  rintro _ _ _ ⟨rfl, rfl, rfl⟩
                  refine WL.pure 29 31 [3, 4, 6, 54, 61] (L' := [(3, .slice Al3 l3.length cl3), (4, .pointer (some ⟨b1, 0, none⟩)), (6, .pointer (some ⟨b3, 0, none⟩)), (54, .bool false), (61, .bool t98)]) (by kernel_rfl) (by decide) ?_
                  refine WL.split 61 (b := t98) (by kernel_rfl) (fun hc => ?_) (fun hc => ?_)
                  · replace hc := hc
                    rw [if_pos hc] at h
                    have hc102 := hc
                    clear hc
                    refine WL.tell (op := .load 27 (.tmp 4)) (ty := 27) (d := some 62) (g := some (30, true)) (by kernel_rfl) (by kernel_rfl) (by kernel_rfl) (Tells.load_box (i := 2) (b := b1) (o := 0) (agg := true) (by rfl) ag27 (by kernel_rfl) (fun h => by cases h) (Nat.le_of_ble_eq_true rfl) (v := .agg #[.int .i64 a0.f0, .int .i64 a0.f1, .int .i64 a0.f2, .int .i64 a0.f3, .string a0.f4]) (by kernel_rfl)) ?_
                    refine WL.tell (op := .load 27 (.tmp 6)) (ty := 27) (d := some 63) (g := some (30, true)) (by kernel_rfl) (by kernel_rfl) (by kernel_rfl) (Tells.load_box (i := 0) (b := b3) (o := 0) (agg := true) (by rfl) ag27 (by kernel_rfl) (fun h => by cases h) (Nat.le_of_ble_eq_true rfl) (v := .agg #[.int .i64 a2.f0, .int .i64 a2.f1, .int .i64 a2.f2, .int .i64 a2.f3, .string a2.f4]) (by kernel_rfl)) ?_
                    rw [Option.bind_eq_some_iff] at h
                    obtain ⟨t103, ht104, h⟩ := h
                    refine WL.op (op := .call { callee := (.value (.func 34)), args := #[(.tmp 62), (.tmp 63)], argTypes := #[27, 27] }) (ty := 4) (d := some 64) (g := some (30, true)) (by kernel_rfl) (by kernel_rfl) (by kernel_rfl) (Does.call (f := 34) (args := [.agg #[.int .i64 a0.f0, .int .i64 a0.f1, .int .i64 a0.f2, .int .i64 a0.f3, .string a0.f4], .agg #[.int .i64 a2.f0, .int .i64 a2.f1, .int .i64 a2.f2, .int .i64 a2.f3, .string a2.f4]]) (by kernel_rfl) (fun W hI => (record_Less_calls a0 a2  t103 ht104 hI))) ?_
                    rintro _ _ _ ⟨rfl, rfl, rfl⟩
                    refine WL.rest 34 [3, 67] (L' := [(3, .slice Al3 l3.length cl3), (67, .bool (!t103))]) (by kernel_rfl) ?_
                    refine QP.dropAt 2 ?_
                    refine QP.dropAt 1 ?_
                    refine QP.dropAt 0 ?_
                    refine QP.pick [3, 67] ?_
                    exact QP.meet ⟨_, Option.some.inj h, rfl, rfl, rfl⟩
                  · replace hc := (Bool.eq_false_iff.1 hc)
                    rw [if_neg hc] at h
                    have hc102 := hc
                    clear hc
                    refine WL.rest 31 [3, 67] (L' := [(3, .slice Al3 l3.length cl3), (67, .bool false)]) (by kernel_rfl) ?_
                    refine QP.dropAt 2 ?_
                    refine QP.dropAt 1 ?_
                    refine QP.dropAt 0 ?_
                    refine QP.pick [3, 67] ?_
                    exact QP.meet ⟨_, Option.some.inj h, rfl, rfl, rfl⟩
                · replace hc := (Bool.eq_false_iff.1 hc)
                  rw [if_neg hc] at h
                  have hc97 := hc
                  clear hc
                  refine WL.rest 26 [3, 67] (L' := [(3, .slice Al3 l3.length cl3), (67, .bool false)]) (by kernel_rfl) ?_
                  refine QP.dropAt 2 ?_
                  refine QP.dropAt 1 ?_
                  refine QP.dropAt 0 ?_
                  refine QP.pick [3, 67] ?_
                  exact QP.meet ⟨_, Option.some.inj h, rfl, rfl, rfl⟩
          · replace hc := (Bool.eq_false_iff.1 hc)
            rw [if_neg hc] at h
            have hc83 := hc
            clear hc
            refine WL.pure 7 10 [3, 4, 5, 6, 9, 35, 39, 40] (L' := [(3, .slice Al3 l3.length cl3), (4, .pointer (some ⟨b1, 0, none⟩)), (5, .pointer (some ⟨b2, 0, none⟩)), (6, .pointer (some ⟨b3, 0, none⟩)), (9, .bool t24), (35, .bool false), (39, .bool t28), (40, .pointer (some ⟨b1, 0, none⟩))]) (by kernel_rfl) (by decide) ?_
            refine WL.tell (op := .load 23 (.tmp 40)) (ty := 23) (d := some 41) (g := some (4, false)) (by kernel_rfl) (by kernel_rfl) (by kernel_rfl) (Tells.load_box (i := 2) (b := b1) (o := 0) (agg := true) (by rfl) ag23 (by kernel_rfl) (fun h => by cases h) (Nat.le_of_ble_eq_true rfl) (v := .agg #[.int .i64 a0.f0, .int .i64 a0.f1]) (by kernel_rfl)) ?_
            refine WL.pure 11 12 [3, 4, 5, 6, 9, 35, 39, 41, 42] (L' := [(3, .slice Al3 l3.length cl3), (4, .pointer (some ⟨b1, 0, none⟩)), (5, .pointer (some ⟨b2, 0, none⟩)), (6, .pointer (some ⟨b3, 0, none⟩)), (9, .bool t24), (35, .bool false), (39, .bool t28), (41, .agg #[.int .i64 a0.f0, .int .i64 a0.f1]), (42, .pointer (some ⟨b2, 0, none⟩))]) (by kernel_rfl) (by decide) ?_
            refine WL.tell (op := .load 23 (.tmp 42)) (ty := 23) (d := some 43) (g := some (4, false)) (by kernel_rfl) (by kernel_rfl) (by kernel_rfl) (Tells.load_box (i := 1) (b := b2) (o := 0) (agg := true) (by rfl) ag23 (by kernel_rfl) (fun h => by cases h) (Nat.le_of_ble_eq_true rfl) (v := .agg #[.int .i64 a1.f0, .int .i64 a1.f1]) (by kernel_rfl)) ?_
            refine WL.tell (op := .binOp .eql 23 (.tmp 41) (.tmp 43) 23) (ty := 4) (d := some 44) (g := some (4, false)) (by kernel_rfl) (by kernel_rfl) (by kernel_rfl) (Tells.eqAgg (xs := #[.int .i64 a0.f0, .int .i64 a0.f1]) (ys := #[.int .i64 a1.f0, .int .i64 a1.f1]) (ls := [.int a0.f0 a1.f0, .int a0.f1 a1.f1]) (by kernel_rfl) (by kernel_rfl) (by kernel_rfl) eg23) ?_
            refine WL.reput 44 (v := .bool ([.int a0.f0 a1.f0, .int a0.f1 a1.f1].all Lf.ok)) (v' := .bool (decide ((⟨a0.f0, a0.f1⟩ : T23) = (⟨a1.f0, a1.f1⟩ : T23)))) (by kernel_rfl) (by exact (congrArg Value.bool (eqT23 (⟨a0.f0, a0.f1⟩ : T23) (⟨a1.f0, a1.f1⟩ : T23)))) ?_
            refine WL.pure 14 15 [3, 4, 5, 6, 9, 35, 39, 45] (L' := [(3, .slice Al3 l3.length cl3), (4, .pointer (some ⟨b1, 0, none⟩)), (5, .pointer (some ⟨b2, 0, none⟩)), (6, .pointer (some ⟨b3, 0, none⟩)), (9, .bool t24), (35, .bool false), (39, .bool t28), (45, .bool (decide ((⟨a0.f0, a0.f1⟩ : T23) = (⟨a1.f0, a1.f1⟩ : T23))))]) (by kernel_rfl) (by decide) ?_
            refine WL.split 45 (b := decide ((⟨a0.f0, a0.f1⟩ : T23) = (⟨a1.f0, a1.f1⟩ : T23))) (by kernel_rfl) (fun hc => ?_) (fun hc => ?_)
            · replace hc := of_decide_eq_true hc
              rw [if_pos hc] at h
              have hc107 := hc
              clear hc
              refine WL.pure 15 16 [3, 4, 5, 6, 9, 35, 39, 45, 46] (L' := [(3, .slice Al3 l3.length cl3), (4, .pointer (some ⟨b1, 0, none⟩)), (5, .pointer (some ⟨b2, 0, none⟩)), (6, .pointer (some ⟨b3, 0, none⟩)), (9, .bool t24), (35, .bool false), (39, .bool t28), (45, .bool true), (46, .pointer (some ⟨b1, 2, none⟩))]) (by kernel_rfl) (by decide) ?_
              refine WL.tell (op := .load 25 (.tmp 46)) (ty := 25) (d := some 47) (g := some (14, true)) (by kernel_rfl) (by kernel_rfl) (by kernel_rfl) (Tells.load_box (i := 2) (b := b1) (o := 2) (agg := true) (by rfl) ag25 (by kernel_rfl) (fun h => by cases h) (Nat.le_of_ble_eq_true rfl) (v := .agg #[.int .i64 a0.f2, .int .i64 a0.f3]) (by kernel_rfl)) ?_
              refine WL.pure 17 18 [3, 4, 5, 6, 9, 35, 39, 45, 47, 48] (L' := [(3, .slice Al3 l3.length cl3), (4, .pointer (some ⟨b1, 0, none⟩)), (5, .pointer (some ⟨b2, 0, none⟩)), (6, .pointer (some ⟨b3, 0, none⟩)), (9, .bool t24), (35, .bool false), (39, .bool t28), (45, .bool true), (47, .agg #[.int .i64 a0.f2, .int .i64 a0.f3]), (48, .pointer (some ⟨b2, 2, none⟩))]) (by kernel_rfl) (by decide) ?_
              refine WL.tell (op := .load 25 (.tmp 48)) (ty := 25) (d := some 49) (g := some (14, true)) (by kernel_rfl) (by kernel_rfl) (by kernel_rfl) (Tells.load_box (i := 1) (b := b2) (o := 2) (agg := true) (by rfl) ag25 (by kernel_rfl) (fun h => by cases h) (Nat.le_of_ble_eq_true rfl) (v := .agg #[.int .i64 a1.f2, .int .i64 a1.f3]) (by kernel_rfl)) ?_
              refine WL.tell (op := .binOp .eql 25 (.tmp 47) (.tmp 49) 25) (ty := 4) (d := some 50) (g := some (14, true)) (by kernel_rfl) (by kernel_rfl) (by kernel_rfl) (Tells.eqAgg (xs := #[.int .i64 a0.f2, .int .i64 a0.f3]) (ys := #[.int .i64 a1.f2, .int .i64 a1.f3]) (ls := [.int a0.f2 a1.f2, .int a0.f3 a1.f3]) (by kernel_rfl) (by kernel_rfl) (by kernel_rfl) eg25) ?_
              refine WL.reput 50 (v := .bool ([.int a0.f2 a1.f2, .int a0.f3 a1.f3].all Lf.ok)) (v' := .bool (decide ((⟨a0.f2, a0.f3⟩ : T25) = (⟨a1.f2, a1.f3⟩ : T25)))) (by kernel_rfl) (by exact (congrArg Value.bool (eqT25 (⟨a0.f2, a0.f3⟩ : T25) (⟨a1.f2, a1.f3⟩ : T25)))) ?_
              refine WL.pure 20 24 [3, 4, 5, 6, 9, 54] (L' := [(3, .slice Al3 l3.length cl3), (4, .pointer (some ⟨b1, 0, none⟩)), (5, .pointer (some ⟨b2, 0, none⟩)), (6, .pointer (some ⟨b3, 0, none⟩)), (9, .bool t24), (54, .bool (t28 == (decide ((⟨a0.f2, a0.f3⟩ : T25) = (⟨a1.f2, a1.f3⟩ : T25)))))]) (by kernel_rfl) (by decide) ?_
              refine WL.split 54 (b := (t28 == (decide ((⟨a0.f2, a0.f3⟩ : T25) = (⟨a1.f2, a1.f3⟩ : T25))))) (by kernel_rfl) (fun hc => ?_) (fun hc => ?_)
              · replace hc := hc
                rw [if_pos hc] at h
                have hc108 := hc
                clear hc
                refine WL.rest 24 [3, 67] (L' := [(3, .slice Al3 l3.length cl3), (67, .bool true)]) (by kernel_rfl) ?_
                refine QP.dropAt 2 ?_
                refine QP.dropAt 1 ?_
                refine QP.dropAt 0 ?_
                refine QP.pick [3, 67] ?_
                exact QP.meet ⟨_, Option.some.inj h, rfl, rfl, rfl⟩
              · replace hc := (Bool.eq_false_iff.1 hc)
                rw [if_neg hc] at h
                have hc108 := hc
                clear hc
                refine WL.pure 24 26 [3, 4, 5, 6, 54, 56] (L' := [(3, .slice Al3 l3.length cl3), (4, .pointer (some ⟨b1, 0, none⟩)), (5, .pointer (some ⟨b2, 0, none⟩)), (6, .pointer (some ⟨b3, 0, none⟩)), (54, .bool false), (56, .bool t24)]) (by kernel_rfl) (by decide) ?_
                refine WL.split 56 (b := t24) (by kernel_rfl) (fun hc => ?_) (fun hc => ?_)
                · replace hc := hc
                  rw [if_pos hc] at h
                  have hc109 := hc
                  clear hc
                  refine WL.tell (op := .load 27 (.tmp 5)) (ty := 27) (d := some 57) (g := some (25, true)) (by kernel_rfl) (by kernel_rfl) (by kernel_rfl) (Tells.load_box (i := 1) (b := b2) (o := 0) (agg := true) (by rfl) ag27 (by kernel_rfl) (fun h => by cases h) (Nat.le_of_ble_eq_true rfl) (v := .agg #[.int .i64 a1.f0, .int .i64 a1.f1, .int .i64 a1.f2, .int .i64 a1.f3, .string a1.f4]) (by kernel_rfl)) ?_
                  refine WL.tell (op := .load 27 (.tmp 6)) (ty := 27) (d := some 58) (g := some (25, true)) (by kernel_rfl) (by kernel_rfl) (by kernel_rfl) (Tells.load_box (i := 0) (b := b3) (o := 0) (agg := true) (by rfl) ag27 (by kernel_rfl) (fun h => by cases h) (Nat.le_of_ble_eq_true rfl) (v := .agg #[.int .i64 a2.f0, .int .i64 a2.f1, .int .i64 a2.f2, .int .i64 a2.f3, .string a2.f4]) (by kernel_rfl)) ?_
                  rw [Option.bind_eq_some_iff] at h
                  obtain ⟨t110, ht111, h⟩ := h
                  refine WL.op (op := .call { callee := (.value (.func 34)), args := #[(.tmp 57), (.tmp 58)], argTypes := #[27, 27] }) (ty := 4) (d := some 59) (g := some (25, true)) (by kernel_rfl) (by kernel_rfl) (by kernel_rfl) (Does.call (f := 34) (args := [.agg #[.int .i64 a1.f0, .int .i64 a1.f1, .int .i64 a1.f2, .int .i64 a1.f3, .string a1.f4], .agg #[.int .i64 a2.f0, .int .i64 a2.f1, .int .i64 a2.f2, .int .i64 a2.f3, .string a2.f4]]) (by kernel_rfl) (fun W hI => (record_Less_calls a1 a2  t110 ht111 hI))) ?_
                  rintro _ _ _ ⟨rfl, rfl, rfl⟩
                  refine WL.pure 29 31 [3, 4, 6, 54, 61] (L' := [(3, .slice Al3 l3.length cl3), (4, .pointer (some ⟨b1, 0, none⟩)), (6, .pointer (some ⟨b3, 0, none⟩)), (54, .bool false), (61, .bool t110)]) (by kernel_rfl) (by decide) ?_
                  refine WL.split 61 (b := t110) (by kernel_rfl) (fun hc => ?_) (fun hc => ?_)
                  · replace hc := hc
                    rw [if_pos hc] at h
                    have hc114 := hc
                    clear hc
                    refine WL.tell (op := .load 27 (.tmp 4)) (ty := 27) (d := some 62) (g := some (30, true)) (by kernel_rfl) (by kernel_rfl) (by kernel_rfl) (Tells.load_box (i := 2) (b := b1) (o := 0) (agg := true) (by rfl) ag27 (by kernel_rfl) (fun h => by cases h) (Nat.le_of_ble_eq_true rfl) (v := .agg #[.int .i64 a0.f0, .int .i64 a0.f1, .int .i64 a0.f2, .int .i64 a0.f3, .string a0.f4]) (by kernel_rfl)) ?_
                    refine WL.tell (op := .load 27 (.tmp 6)) (ty := 27) (d := some 63) (g := some (30, true)) (by kernel_rfl) (by kernel_rfl) (by kernel_rfl) (Tells.load_box (i := 0) (b := b3) (o := 0) (agg := true) (by rfl) ag27 (by kernel_rfl) (fun h => by cases h) (Nat.le_of_ble_eq_true rfl) (v := .agg #[.int .i64 a2.f0, .int .i64 a2.f1, .int .i64 a2.f2, .int .i64 a2.f3, .string a2.f4]) (by kernel_rfl)) ?_
                    rw [Option.bind_eq_some_iff] at h
                    obtain ⟨t115, ht116, h⟩ := h
                    refine WL.op (op := .call { callee := (.value (.func 34)), args := #[(.tmp 62), (.tmp 63)], argTypes := #[27, 27] }) (ty := 4) (d := some 64) (g := some (30, true)) (by kernel_rfl) (by kernel_rfl) (by kernel_rfl) (Does.call (f := 34) (args := [.agg #[.int .i64 a0.f0, .int .i64 a0.f1, .int .i64 a0.f2, .int .i64 a0.f3, .string a0.f4], .agg #[.int .i64 a2.f0, .int .i64 a2.f1, .int .i64 a2.f2, .int .i64 a2.f3, .string a2.f4]]) (by kernel_rfl) (fun W hI => (record_Less_calls a0 a2  t115 ht116 hI))) ?_
                    rintro _ _ _ ⟨rfl, rfl, rfl⟩
                    refine WL.rest 34 [3, 67] (L' := [(3, .slice Al3 l3.length cl3), (67, .bool (!t115))]) (by kernel_rfl) ?_
                    refine QP.dropAt 2 ?_
                    refine QP.dropAt 1 ?_
                    refine QP.dropAt 0 ?_
                    refine QP.pick [3, 67] ?_
                    exact QP.meet ⟨_, Option.some.inj h, rfl, rfl, rfl⟩
                  · replace hc := (Bool.eq_false_iff.1 hc)
                    rw [if_neg hc] at h
                    have hc114 := hc
                    clear hc
                    refine WL.rest 31 [3, 67] (L' := [(3, .slice Al3 l3.length cl3), (67, .bool false)]) (by kernel_rfl) ?_
                    refine QP.dropAt 2 ?_
                    refine QP.dropAt 1 ?_
                    refine QP.dropAt 0 ?_
                    refine QP.pick [3, 67] ?_
                    exact QP.meet ⟨_, Option.some.inj h, rfl, rfl, rfl⟩
                · replace hc := (Bool.eq_false_iff.1 hc)
                  rw [if_neg hc] at h
                  have hc109 := hc
                  clear hc
                  refine WL.rest 26 [3, 67] (L' := [(3, .slice Al3 l3.length cl3), (67, .bool false)]) (by kernel_rfl) ?_
                  refine QP.dropAt 2 ?_
                  refine QP.dropAt 1 ?_
                  refine QP.dropAt 0 ?_
                  refine QP.pick [3, 67] ?_
                  exact QP.meet ⟨_, Option.some.inj h, rfl, rfl, rfl⟩
            · replace hc := of_decide_eq_false hc
              rw [if_neg hc] at h
              have hc107 := hc
              clear hc
              refine WL.pure 15 24 [3, 4, 5, 6, 9, 54] (L' := [(3, .slice Al3 l3.length cl3), (4, .pointer (some ⟨b1, 0, none⟩)), (5, .pointer (some ⟨b2, 0, none⟩)), (6, .pointer (some ⟨b3, 0, none⟩)), (9, .bool t24), (54, .bool (t28 == false))]) (by kernel_rfl) (by decide) ?_
              refine WL.split 54 (b := (t28 == false)) (by kernel_rfl) (fun hc => ?_) (fun hc => ?_)
              · replace hc := hc
                rw [if_pos hc] at h
                have hc119 := hc
                clear hc
                refine WL.rest 24 [3, 67] (L' := [(3, .slice Al3 l3.length cl3), (67, .bool true)]) (by kernel_rfl) ?_
                refine QP.dropAt 2 ?_
                refine QP.dropAt 1 ?_
                refine QP.dropAt 0 ?_
                refine QP.pick [3, 67] ?_
                exact QP.meet ⟨_, Option.some.inj h, rfl, rfl, rfl⟩
              · replace hc := (Bool.eq_false_iff.1 hc)
                rw [if_neg hc] at h
                have hc119 := hc
                clear hc
                refine WL.pure 24 26 [3, 4, 5, 6, 54, 56] (L' := [(3, .slice Al3 l3.length cl3), (4, .pointer (some ⟨b1, 0, none⟩)), (5, .pointer (some ⟨b2, 0, none⟩)), (6, .pointer (some ⟨b3, 0, none⟩)), (54, .bool false), (56, .bool t24)]) (by kernel_rfl) (by decide) ?_
                refine WL.split 56 (b := t24) (by kernel_rfl) (fun hc => ?_) (fun hc => ?_)
                · replace hc := hc
                  rw [if_pos hc] at h
                  have hc120 := hc
                  clear hc
                  refine WL.tell (op := .load 27 (.tmp 5)) (ty := 27) (d := some 57) (g := some (25, true)) (by kernel_rfl) (by kernel_rfl) (by kernel_rfl) (Tells.load_box (i := 1) (b := b2) (o := 0) (agg := true) (by rfl) ag27 (by kernel_rfl) (fun h => by cases h) (Nat.le_of_ble_eq_true rfl) (v := .agg #[.int .i64 a1.f0, .int .i64 a1.f1, .int .i64 a1.f2, .int .i64 a1.f3, .string a1.f4]) (by kernel_rfl)) ?_
                  refine WL.tell (op := .load 27 (.tmp 6)) (ty := 27) (d := some 58) (g := some (25, true)) (by kernel_rfl) (by kernel_rfl) (by kernel_rfl) (Tells.load_box (i := 0) (b := b3) (o := 0) (agg := true) (by rfl) ag27 (by kernel_rfl) (fun h => by cases h) (Nat.le_of_ble_eq_true rfl) (v := .agg #[.int .i64 a2.f0, .int .i64 a2.f1, .int .i64 a2.f2, .int .i64 a2.f3, .string a2.f4]) (by kernel_rfl)) ?_
                  rw [Option.bind_eq_some_iff] at h
                  obtain ⟨t121, ht122, h⟩ := h
                  refine WL.op (op := .call { callee := (.value (.func 34)), args := #[(.tmp 57), (.tmp 58)], argTypes := #[27, 27] }) (ty := 4) (d := some 59) (g := some (25, true)) (by kernel_rfl) (by kernel_rfl) (by kernel_rfl) (Does.call (f := 34) (args := [.agg #[.int .i64 a1.f0, .int .i64 a1.f1, .int .i64 a1.f2, .int .i64 a1.f3, .string a1.f4], .agg #[.int .i64 a2.f0, .int .i64 a2.f1, .int .i64 a2.f2, .int .i64 a2.f3, .string a2.f4]]) (by kernel_rfl) (fun W hI => (record_Less_calls a1 a2  t121 ht122 hI))) ?_
                  rintro _ _ _ ⟨rfl, rfl, rfl⟩
                  refine WL.pure 29 31 [3, 4, 6, 54, 61] (L' := [(3, .slice Al3 l3.length cl3), (4, .pointer (some ⟨b1, 0, none⟩)), (6, .pointer (some ⟨b3, 0, none⟩)), (54, .bool false), (61, .bool t121)]) (by kernel_rfl) (by decide) ?_
                  refine WL.split 61 (b := t121) (by kernel_rfl) (fun hc => ?_) (fun hc => ?_)
                  · replace hc := hc
                    rw [if_pos hc] at h
                    have hc125 := hc
                    clear hc
                    refine WL.tell (op := .load 27 (.tmp 4)) (ty := 27) (d := some 62) (g := some (30, true)) (by kernel_rfl) (by kernel_rfl) (by kernel_rfl) (Tells.load_box (i := 2) (b := b1) (o := 0) (agg := true) (by rfl) ag27 (by kernel_rfl) (fun h => by cases h) (Nat.le_of_ble_eq_true rfl) (v := .agg #[.int .i64 a0.f0, .int .i64 a0.f1, .int .i64 a0.f2, .int .i64 a0.f3, .string a0.f4]) (by kernel_rfl)) ?_
                    refine WL.tell (op := .load 27 (.tmp 6)) (ty := 27) (d := some 63) (g := some (30, true)) (by kernel_rfl) (by kernel_rfl) (by kernel_rfl) (Tells.load_box (i := 0) (b := b3) (o := 0) (agg := true) (by rfl) ag27 (by kernel_rfl) (fun h => by cases h) (Nat.le_of_ble_eq_true rfl) (v := .agg #[.int .i64 a2.f0, .int .i64 a2.f1, .int .i64 a2.f2, .int .i64 a2.f3, .string a2.f4]) (by kernel_rfl)) ?_
                    rw [Option.bind_eq_some_iff] at h
                    obtain ⟨t126, ht127, h⟩ := h
                    refine WL.op (op := .call { callee := (.value (.func 34)), args := #[(.tmp 62), (.tmp 63)], argTypes := #[27, 27] }) (ty := 4) (d := some 64) (g := some (30, true)) (by kernel_rfl) (by kernel_rfl) (by kernel_rfl) (Does.call (f := 34) (args := [.agg #[.int .i64 a0.f0, .int .i64 a0.f1, .int .i64 a0.f2, .int .i64 a0.f3, .string a0.f4], .agg #[.int .i64 a2.f0, .int .i64 a2.f1, .int .i64 a2.f2, .int .i64 a2.f3, .string a2.f4]]) (by kernel_rfl) (fun W hI => (record_Less_calls a0 a2  t126 ht127 hI))) ?_
                    rintro _ _ _ ⟨rfl, rfl, rfl⟩
                    refine WL.rest 34 [3, 67] (L' := [(3, .slice Al3 l3.length cl3), (67, .bool (!t126))]) (by kernel_rfl) ?_
                    refine QP.dropAt 2 ?_
                    refine QP.dropAt 1 ?_
                    refine QP.dropAt 0 ?_
                    refine QP.pick [3, 67] ?_
                    exact QP.meet ⟨_, Option.some.inj h, rfl, rfl, rfl⟩
                  · replace hc := (Bool.eq_false_iff.1 hc)
                    rw [if_neg hc] at h
                    have hc125 := hc
                    clear hc
                    refine WL.rest 31 [3, 67] (L' := [(3, .slice Al3 l3.length cl3), (67, .bool false)]) (by kernel_rfl) ?_
                    refine QP.dropAt 2 ?_
                    refine QP.dropAt 1 ?_
                    refine QP.dropAt 0 ?_
                    refine QP.pick [3, 67] ?_
                    exact QP.meet ⟨_, Option.some.inj h, rfl, rfl, rfl⟩
                · replace hc := (Bool.eq_false_iff.1 hc)
                  rw [if_neg hc] at h
                  have hc120 := hc
                  clear hc
                  refine WL.rest 26 [3, 67] (L' := [(3, .slice Al3 l3.length cl3), (67, .bool false)]) (by kernel_rfl) ?_
                  refine QP.dropAt 2 ?_
                  refine QP.dropAt 1 ?_
                  refine QP.dropAt 0 ?_
                  refine QP.pick [3, 67] ?_
                  exact QP.meet ⟨_, Option.some.inj h, rfl, rfl, rfl⟩
      · rintro _ _ _ ⟨s32, rfl, rfl, rfl, rfl⟩
        clear h
        replace h := hk33
        refine WP.cond (b := s32) (by kernel_rfl) (fun hc => ?_) (fun hc => ?_)
        · replace hc := hc
          rw [if_pos hc] at h
          have hc130 := hc
          clear hc
          refine WP.seqP [8] (L' := [(8, .bool false)]) (by kernel_rfl) ?_
          refine WP.ret ?_
          refine QP.thenR ?_
          obtain rfl := Option.some.inj h
          exact QP.returned [8] [.bool false] _ (by kernel_rfl) (by kernel_rfl) (by kernel_rfl) (fun W hI => ⟨_, _, _, rfl, ⟨rfl, rfl, rfl⟩, hI⟩)
        · replace hc := (Bool.eq_false_iff.1 hc)
          rw [if_neg hc] at h
          have hc130 := hc
          clear hc
          refine WP.skip ?_
          refine QP.next ?_
          refine WP.pick [3] ?_
          refine WP.seqR ?_
          refine WL.pure 0 1 [3, 68] (L' := [(3, .slice Al3 l3.length cl3), (68, .slice Al3 l3.length cl3)]) (by kernel_rfl) (by decide) ?_
          rw [Option.bind_eq_some_iff] at h
          obtain ⟨t131, ht132, h⟩ := h
          refine WL.op (op := .call { callee := (.value (.func 28)), args := #[(.tmp 68)], argTypes := #[46] }) (ty := 46) (d := some 69) (g := none) (by kernel_rfl) (by kernel_rfl) (by kernel_rfl) (Does.call (f := 28) (args := [.slice Al3 l3.length cl3]) (by kernel_rfl) (fun W hI => (record_Sort_calls k l3 Al3 cl3 Hl3 t131 ht132 hI))) ?_
          rintro _ _ _ ⟨AR133, cR133, CR133, rfl, HR133, rfl, rfl⟩
          refine WL.restQ 2 [3, 11] (L' := [(3, .slice Al3 l3.length cl3), (11, .slice AR133 t131.length cR133)]) (by kernel_rfl) ?_
          refine WP.seq ?_
          refine WP.seqP [3, 11, 74] (L' := [(3, .slice Al3 l3.length cl3), (11, .slice AR133 t131.length cR133), (74, .bool ((t131.length : Int) != (l3.length : Int)))]) (by kernel_rfl) ?_
          refine WP.cond (b := ((t131.length : Int) != (l3.length : Int))) (by kernel_rfl) (fun hc => ?_) (fun hc => ?_)
          · replace hc := (bne_iff_ne.1 hc)
            rw [if_pos hc] at h
            have hc135 := hc
            clear hc
            refine WP.seqP [8] (L' := [(8, .bool false)]) (by kernel_rfl) ?_
            refine WP.dropAt 0 ?_
            refine WP.ret ?_
            refine QP.thenR ?_
            obtain rfl := Option.some.inj h
            exact QP.returned [8] [.bool false] _ (by kernel_rfl) (by kernel_rfl) (by kernel_rfl) (fun W hI => ⟨_, _, _, rfl, ⟨rfl, rfl, rfl⟩, hI⟩)
          · replace hc := (not_not_intro (bne_eq_false_iff_eq.1 hc))
            rw [if_neg hc] at h
            have hc135 := hc
            clear hc
            refine WP.skip ?_
            refine QP.next ?_
            refine WP.pick [3, 11] ?_
            refine WP.seq ?_
            refine WP.seqP [3, 11, 12] (L' := [(3, .slice Al3 l3.length cl3), (11, .slice AR133 t131.length cR133), (12, .int .i64 0)]) (by kernel_rfl) ?_
            rw [Option.bind_eq_some_iff] at h
            obtain ⟨os136, h, hk137⟩ := h
            refine WP.cutQ (fun L' G' Γ' => ∃ s136 : Unit, Sum.inr s136 = os136 ∧ L' = [(11, .slice AR133 t131.length cR133)] ∧ G = G' ∧ CR133 :: Γ = Γ') ?_ ?_
            · skip
              refine WP.block ?_
              refine WP.pick [3, 11, 12] ?_
              refine WP.loopF (fun kn139 L' G' Γ' => ∃ (y138 : Int), grapevinelaw4_RecordOrder_l0 l3 t131 kn139 y138 = some os136 ∧ L' = [(3, .slice Al3 l3.length cl3), (11, .slice AR133 t131.length cR133), (12, .int .i64 y138)] ∧ G = G' ∧ CR133 :: Γ = Γ') ?_ k ⟨0, h, rfl, rfl, rfl⟩
              clear h
              rintro kn140 _ _ _ ⟨y138, h, rfl, rfl, rfl⟩
              cases kn140 with
              | zero => exact absurd h (by simp [grapevinelaw4_RecordOrder_l0])
              | succ kn140 =>
                simp only [grapevinelaw4_RecordOrder_l0] at h
                refine WP.seq ?_
                refine WP.seqP [3, 11, 12, 78] (L' := [(3, .slice Al3 l3.length cl3), (11, .slice AR133 t131.length cR133), (12, .int .i64 y138), (78, .bool (decide (y138 < (t131.length : Int))))]) (by kernel_rfl) ?_
                refine WP.cond (b := decide (y138 < (t131.length : Int))) (by kernel_rfl) (fun hc => ?_) (fun hc => ?_)
                · replace hc := of_decide_eq_true hc
                  rw [if_pos hc] at h
                  have hc141 := hc
                  clear hc
                  refine WP.skip ?_
                  refine QP.next ?_
                  refine WP.pick [3, 11, 12] ?_
                  refine WP.seq ?_
                  refine WP.block ?_
                  refine WP.seqP [3, 11, 12, 13] (L' := [(3, .slice Al3 l3.length cl3), (11, .slice AR133 t131.length cR133), (12, .int .i64 y138), (13, .int .i64 0)]) (by kernel_rfl) ?_
                  refine WP.seq ?_
                  refine WP.seqP [3, 11, 12, 13, 14] (L' := [(3, .slice Al3 l3.length cl3), (11, .slice AR133 t131.length cR133), (12, .int .i64 y138), (13, .int .i64 0), (14, .int .i64 0)]) (by kernel_rfl) ?_
                  rw [Option.bind_eq_some_iff] at h
                  obtain ⟨os142, h, hk143⟩ := h
                  refine WP.cutQ (fun L' G' Γ' => ∃ s142 : Int, s142 = os142 ∧ L' = [(3, .slice Al3 l3.length cl3), (11, .slice AR133 t131.length cR133), (12, .int .i64 y138), (13, .int .i64 s142)] ∧ G = G' ∧ CR133 :: Γ = Γ') ?_ ?_
                  · clear hk143
                    refine WP.block ?_
                    refine WP.pick [3, 11, 12, 13, 14] ?_
                    refine WP.loopF (fun kn146 L' G' Γ' => ∃ (y144 : Int), ∃ (y145 : Int), grapevinelaw4_RecordOrder_l1 l3 t131 y138 kn146 y144 y145 = some os142 ∧ L' = [(3, .slice Al3 l3.length cl3), (11, .slice AR133 t131.length cR133), (12, .int .i64 y138), (13, .int .i64 y144), (14, .int .i64 y145)] ∧ G = G' ∧ CR133 :: Γ = Γ') ?_ kn140 ⟨0, 0, h, rfl, rfl, rfl⟩
                    clear h
                    rintro kn147 _ _ _ ⟨y144, y145, h, rfl, rfl, rfl⟩
                    cases kn147 with
                    | zero => exact absurd h (by simp [grapevinelaw4_RecordOrder_l1])
                    | succ kn147 =>
                      simp only [grapevinelaw4_RecordOrder_l1] at h
                      refine WP.seq ?_
                      refine WP.seqP [3, 11, 12, 13, 14, 84] (L' := [(3, .slice Al3 l3.length cl3), (11, .slice AR133 t131.length cR133), (12, .int .i64 y138), (13, .int .i64 y144), (14, .int .i64 y145), (84, .bool (decide (y145 < (t131.length : Int))))]) (by kernel_rfl) ?_
                      refine WP.cond (b := decide (y145 < (t131.length : Int))) (by kernel_rfl) (fun hc => ?_) (fun hc => ?_)
                      · replace hc := of_decide_eq_true hc
                        rw [if_pos hc] at h
                        have hc148 := hc
                        clear hc
                        refine WP.skip ?_
                        refine QP.next ?_
                        refine WP.pick [3, 11, 12, 13, 14] ?_
                        refine WP.seq ?_
                        refine WP.block ?_
                        refine WP.seq ?_
                        refine WP.seq ?_
                        refine WP.any (N := 9) (S := [⟨some 87, [11], []⟩, ⟨some 88, [14], []⟩, ⟨some 89, [87, 88], [0, 1]⟩, ⟨some 90, [89], [2]⟩, ⟨some 91, [11], []⟩, ⟨some 92, [12], []⟩, ⟨some 93, [91, 92], [4, 5]⟩, ⟨some 94, [93], [6]⟩, ⟨some 95, [90, 94], [3, 7]⟩]) (kw := 9) (G0 := G) (Γ0 := CR133 :: Γ) mo (by kernel_rfl) (fun hS => ?_)
                        refine WA.pure [0, 1, 4, 5] [3, 11, 12, 13, 14, 87, 88, 91, 92] (m := 5) (b' := 51) (L' := [(3, .slice Al3 l3.length cl3), (11, .slice AR133 t131.length cR133), (12, .int .i64 y138), (13, .int .i64 y144), (14, .int .i64 y145), (87, .slice AR133 t131.length cR133), (88, .int .i64 y145), (91, .slice AR133 t131.length cR133), (92, .int .i64 y138)]) (by kernel_rfl) (NoPanic.then (NoPanic.then (NoPanic.block (NoPanic.then (NoPanic.then (NoPanic.block (NoPanic.then (NoPanic.then (NoPanic.block (NoPanic.then (NoPanic.then (NoPanic.block (NoPanic.then (NoPanic.then (NoPanic.body))))))))))))))) Under.refl hS (by kernel_rfl) ?_
                        by_cases hb149 : 0 ≤ y145 ∧ y145 < (t131.length : Int)
                        case neg => rw [if_neg hb149] at h; cases h
                        rw [if_pos hb149] at h
                        refine WA.tellD [] (i := 2) (m := 4) (b' := 55) (by kernel_rfl) (NoPanic.then (NoPanic.then (NoPanic.block (NoPanic.then (NoPanic.then (NoPanic.block (NoPanic.then (NoPanic.then (NoPanic.block (NoPanic.then (NoPanic.then (NoPanic.block (NoPanic.then (NoPanic.then (NoPanic.body))))))))))))))) Under.refl hS (by kernel_rfl) (op := .indexAddr 46 (.tmp 87) (.tmp 88)) (ty := 0) (d := some 89) (g := none) (by kernel_rfl) (by kernel_rfl) (by kernel_rfl) (Tells.indexAddr (A := AR133) (n := t131.length) (c := cR133) (k := .i64) (j := y145) (by kernel_rfl) (by kernel_rfl) (HR133.isSome hb149.1 hb149.2) hb149.1 hb149.2 sl46) ?_
                        refine WA.tellDE [] (i := 3) (m := 3) (b' := 63) (by kernel_rfl) (NoPanic.then (NoPanic.then (NoPanic.block (NoPanic.then (NoPanic.then (NoPanic.block (NoPanic.then (NoPanic.then (NoPanic.block (NoPanic.then (NoPanic.then (NoPanic.block (NoPanic.then (NoPanic.then (NoPanic.body))))))))))))))) Under.refl hS (by kernel_rfl) (op := .load 27 (.tmp 89)) (ty := 27) (d := some 90) (g := none) (by kernel_rfl) (by kernel_rfl) (by kernel_rfl) (HR133.load (i := 0) rfl (agg := true) hb149.1 hb149.2 z27 ag27 (fun h => by cases h) (by kernel_rfl)) ?_
                        rintro _ rfl
                        by_cases hb150 : 0 ≤ y138 ∧ y138 < (t131.length : Int)
                        case neg => rw [if_neg hb150] at h; cases h
                        rw [if_pos hb150] at h
                        refine WA.tellD [] (i := 6) (m := 2) (b' := 127) (by kernel_rfl) (NoPanic.then (NoPanic.then (NoPanic.block (NoPanic.then (NoPanic.then (NoPanic.block (NoPanic.then (NoPanic.then (NoPanic.block (NoPanic.then (NoPanic.then (NoPanic.block (NoPanic.then (NoPanic.then (NoPanic.body))))))))))))))) Under.refl hS (by kernel_rfl) (op := .indexAddr 46 (.tmp 91) (.tmp 92)) (ty := 0) (d := some 93) (g := none) (by kernel_rfl) (by kernel_rfl) (by kernel_rfl) (Tells.indexAddr (A := AR133) (n := t131.length) (c := cR133) (k := .i64) (j := y138) (by kernel_rfl) (by kernel_rfl) (HR133.isSome hb150.1 hb150.2) hb150.1 hb150.2 sl46) ?_
                        refine WA.tellDE [] (i := 7) (m := 1) (b' := 255) (by kernel_rfl) (NoPanic.then (NoPanic.then (NoPanic.block (NoPanic.then (NoPanic.then (NoPanic.block (NoPanic.then (NoPanic.then (NoPanic.block (NoPanic.then (NoPanic.then (NoPanic.block (NoPanic.then (NoPanic.then (NoPanic.body))))))))))))))) Under.refl hS (by kernel_rfl) (op := .load 27 (.tmp 93)) (ty := 27) (d := some 94) (g := none) (by kernel_rfl) (by kernel_rfl) (by kernel_rfl) (HR133.load (i := 0) rfl (agg := true) hb150.1 hb150.2 z27 ag27 (fun h => by cases h) (by kernel_rfl)) ?_
                        rintro _ rfl
                        refine WA.tellD [] (i := 8) (m := 0) (b' := 511) (by kernel_rfl) (NoPanic.then (NoPanic.then (NoPanic.block (NoPanic.then (NoPanic.then (NoPanic.block (NoPanic.then (NoPanic.then (NoPanic.block (NoPanic.then (NoPanic.then (NoPanic.block (NoPanic.then (NoPanic.then (NoPanic.body))))))))))))))) Under.refl hS (by kernel_rfl) (op := .binOp .eql 27 (.tmp 90) (.tmp 94) 27) (ty := 4) (d := some 95) (g := none) (by kernel_rfl) (by kernel_rfl) (by kernel_rfl) (Tells.eqAgg (xs := #[.int .i64 ((t131.getD y145.toNat z27).f0), .int .i64 ((t131.getD y145.toNat z27).f1), .int .i64 ((t131.getD y145.toNat z27).f2), .int .i64 ((t131.getD y145.toNat z27).f3), .string ((t131.getD y145.toNat z27).f4)]) (ys := #[.int .i64 ((t131.getD y138.toNat z27).f0), .int .i64 ((t131.getD y138.toNat z27).f1), .int .i64 ((t131.getD y138.toNat z27).f2), .int .i64 ((t131.getD y138.toNat z27).f3), .string ((t131.getD y138.toNat z27).f4)]) (ls := [.int ((t131.getD y145.toNat z27).f0) ((t131.getD y138.toNat z27).f0), .int ((t131.getD y145.toNat z27).f1) ((t131.getD y138.toNat z27).f1), .int ((t131.getD y145.toNat z27).f2) ((t131.getD y138.toNat z27).f2), .int ((t131.getD y145.toNat z27).f3) ((t131.getD y138.toNat z27).f3), .str ((t131.getD y145.toNat z27).f4) ((t131.getD y138.toNat z27).f4)]) (by kernel_rfl) (by kernel_rfl) (by kernel_rfl) eg27) ?_
                        refine WA.reput 95 (v := .bool ([.int ((t131.getD y145.toNat z27).f0) ((t131.getD y138.toNat z27).f0), .int ((t131.getD y145.toNat z27).f1) ((t131.getD y138.toNat z27).f1), .int ((t131.getD y145.toNat z27).f2) ((t131.getD y138.toNat z27).f2), .int ((t131.getD y145.toNat z27).f3) ((t131.getD y138.toNat z27).f3), .str ((t131.getD y145.toNat z27).f4) ((t131.getD y138.toNat z27).f4)].all Lf.ok)) (v' := .bool (decide ((t131.getD y145.toNat z27) = (t131.getD y138.toNat z27)))) (by kernel_rfl) (by exact (congrArg Value.bool (eqT27 (t131.getD y145.toNat z27) (t131.getD y138.toNat z27)))) ?_
                        refine WA.done hS (by kernel_rfl) ?_
                        refine QP.pick [3, 11, 12, 13, 14, 95] ?_
                        refine QP.next ?_
                        refine WP.cond (b := decide ((t131.getD y145.toNat z27) = (t131.getD y138.toNat z27))) (by kernel_rfl) (fun hc => ?_) (fun hc => ?_)
                        · replace hc := of_decide_eq_true hc
                          rw [if_pos hc] at h
                          have hc151 := hc
                          clear hc
                          refine WP.regionP [3, 11, 12, 13, 14] (L' := [(3, .slice Al3 l3.length cl3), (11, .slice AR133 t131.length cR133), (12, .int .i64 y138), (13, .int .i64 (IntKind.i64.wrap (y144 + 1))), (14, .int .i64 y145)]) (by kernel_rfl) ?_
                          refine QP.next ?_
                          refine WP.pick [3, 11, 12, 13, 14] ?_
                          refine WP.seq ?_
                          refine WP.any (N := 9) (S := [⟨some 98, [3], []⟩, ⟨some 99, [14], []⟩, ⟨some 100, [98, 99], [0, 1]⟩, ⟨some 101, [100], [2]⟩, ⟨some 102, [11], []⟩, ⟨some 103, [12], []⟩, ⟨some 104, [102, 103], [4, 5]⟩, ⟨some 105, [104], [6]⟩, ⟨some 106, [101, 105], [3, 7]⟩]) (kw := 9) (G0 := G) (Γ0 := CR133 :: Γ) mo (by kernel_rfl) (fun hS => ?_)
                          refine WA.pure [0, 1, 4, 5] [3, 11, 12, 13, 14, 98, 99, 102, 103] (m := 5) (b' := 51) (L' := [(3, .slice Al3 l3.length cl3), (11, .slice AR133 t131.length cR133), (12, .int .i64 y138), (13, .int .i64 (IntKind.i64.wrap (y144 + 1))), (14, .int .i64 y145), (98, .slice Al3 l3.length cl3), (99, .int .i64 y145), (102, .slice AR133 t131.length cR133), (103, .int .i64 y138)]) (by kernel_rfl) (NoPanic.then (NoPanic.block (NoPanic.then (NoPanic.then (NoPanic.block (NoPanic.then (NoPanic.then (NoPanic.block (NoPanic.then (NoPanic.then (NoPanic.block (NoPanic.then (NoPanic.then (NoPanic.body)))))))))))))) Under.refl hS (by kernel_rfl) ?_
                          by_cases hb152 : 0 ≤ y145 ∧ y145 < (l3.length : Int)
                          case neg => rw [if_neg hb152] at h; cases h
                          rw [if_pos hb152] at h
                          refine WA.tellD [] (i := 2) (m := 4) (b' := 55) (by kernel_rfl) (NoPanic.then (NoPanic.block (NoPanic.then (NoPanic.then (NoPanic.block (NoPanic.then (NoPanic.then (NoPanic.block (NoPanic.then (NoPanic.then (NoPanic.block (NoPanic.then (NoPanic.then (NoPanic.body)))))))))))))) Under.refl hS (by kernel_rfl) (op := .indexAddr 46 (.tmp 98) (.tmp 99)) (ty := 0) (d := some 100) (g := none) (by kernel_rfl) (by kernel_rfl) (by kernel_rfl) (Tells.indexAddr (A := Al3) (n := l3.length) (c := cl3) (k := .i64) (j := y145) (by kernel_rfl) (by kernel_rfl) (Hl3.isSome hb152.1 hb152.2) hb152.1 hb152.2 sl46) ?_
                          refine WA.tellDE [] (i := 3) (m := 3) (b' := 63) (by kernel_rfl) (NoPanic.then (NoPanic.block (NoPanic.then (NoPanic.then (NoPanic.block (NoPanic.then (NoPanic.then (NoPanic.block (NoPanic.then (NoPanic.then (NoPanic.block (NoPanic.then (NoPanic.then (NoPanic.body)))))))))))))) Under.refl hS (by kernel_rfl) (op := .load 27 (.tmp 100)) (ty := 27) (d := some 101) (g := none) (by kernel_rfl) (by kernel_rfl) (by kernel_rfl) (Hl3.load (agg := true) hb152.1 hb152.2 z27 ag27 (fun h => by cases h) (by kernel_rfl)) ?_
                          rintro _ rfl
                          by_cases hb153 : 0 ≤ y138 ∧ y138 < (t131.length : Int)
                          case neg => rw [if_neg hb153] at h; cases h
                          rw [if_pos hb153] at h
                          refine WA.tellD [] (i := 6) (m := 2) (b' := 127) (by kernel_rfl) (NoPanic.then (NoPanic.block (NoPanic.then (NoPanic.then (NoPanic.block (NoPanic.then (NoPanic.then (NoPanic.block (NoPanic.then (NoPanic.then (NoPanic.block (NoPanic.then (NoPanic.then (NoPanic.body)))))))))))))) Under.refl hS (by kernel_rfl) (op := .indexAddr 46 (.tmp 102) (.tmp 103)) (ty := 0) (d := some 104) (g := none) (by kernel_rfl) (by kernel_rfl) (by kernel_rfl) (Tells.indexAddr (A := AR133) (n := t131.length) (c := cR133) (k := .i64) (j := y138) (by kernel_rfl) (by kernel_rfl) (HR133.isSome hb153.1 hb153.2) hb153.1 hb153.2 sl46) ?_
                          refine WA.tellDE [] (i := 7) (m := 1) (b' := 255) (by kernel_rfl) (NoPanic.then (NoPanic.block (NoPanic.then (NoPanic.then (NoPanic.block (NoPanic.then (NoPanic.then (NoPanic.block (NoPanic.then (NoPanic.then (NoPanic.block (NoPanic.then (NoPanic.then (NoPanic.body)))))))))))))) Under.refl hS (by kernel_rfl) (op := .load 27 (.tmp 104)) (ty := 27) (d := some 105) (g := none) (by kernel_rfl) (by kernel_rfl) (by kernel_rfl) (HR133.load (i := 0) rfl (agg := true) hb153.1 hb153.2 z27 ag27 (fun h => by cases h) (by kernel_rfl)) ?_
                          rintro _ rfl
                          refine WA.tellD [] (i := 8) (m := 0) (b' := 511) (by kernel_rfl) (NoPanic.then (NoPanic.block (NoPanic.then (NoPanic.then (NoPanic.block (NoPanic.then (NoPanic.then (NoPanic.block (NoPanic.then (NoPanic.then (NoPanic.block (NoPanic.then (NoPanic.then (NoPanic.body)))))))))))))) Under.refl hS (by kernel_rfl) (op := .binOp .eql 27 (.tmp 101) (.tmp 105) 27) (ty := 4) (d := some 106) (g := none) (by kernel_rfl) (by kernel_rfl) (by kernel_rfl) (Tells.eqAgg (xs := #[.int .i64 ((l3.getD y145.toNat z27).f0), .int .i64 ((l3.getD y145.toNat z27).f1), .int .i64 ((l3.getD y145.toNat z27).f2), .int .i64 ((l3.getD y145.toNat z27).f3), .string ((l3.getD y145.toNat z27).f4)]) (ys := #[.int .i64 ((t131.getD y138.toNat z27).f0), .int .i64 ((t131.getD y138.toNat z27).f1), .int .i64 ((t131.getD y138.toNat z27).f2), .int .i64 ((t131.getD y138.toNat z27).f3), .string ((t131.getD y138.toNat z27).f4)]) (ls := [.int ((l3.getD y145.toNat z27).f0) ((t131.getD y138.toNat z27).f0), .int ((l3.getD y145.toNat z27).f1) ((t131.getD y138.toNat z27).f1), .int ((l3.getD y145.toNat z27).f2) ((t131.getD y138.toNat z27).f2), .int ((l3.getD y145.toNat z27).f3) ((t131.getD y138.toNat z27).f3), .str ((l3.getD y145.toNat z27).f4) ((t131.getD y138.toNat z27).f4)]) (by kernel_rfl) (by kernel_rfl) (by kernel_rfl) eg27) ?_
                          refine WA.reput 106 (v := .bool ([.int ((l3.getD y145.toNat z27).f0) ((t131.getD y138.toNat z27).f0), .int ((l3.getD y145.toNat z27).f1) ((t131.getD y138.toNat z27).f1), .int ((l3.getD y145.toNat z27).f2) ((t131.getD y138.toNat z27).f2), .int ((l3.getD y145.toNat z27).f3) ((t131.getD y138.toNat z27).f3), .str ((l3.getD y145.toNat z27).f4) ((t131.getD y138.toNat z27).f4)].all Lf.ok)) (v' := .bool (decide ((l3.getD y145.toNat z27) = (t131.getD y138.toNat z27)))) (by kernel_rfl) (by exact (congrArg Value.bool (eqT27 (l3.getD y145.toNat z27) (t131.getD y138.toNat z27)))) ?_
                          refine WA.done hS (by kernel_rfl) ?_
                          refine QP.pick [3, 11, 12, 13, 14, 106] ?_
                          refine QP.next ?_
                          refine WP.cond (b := decide ((l3.getD y145.toNat z27) = (t131.getD y138.toNat z27))) (by kernel_rfl) (fun hc => ?_) (fun hc => ?_)
                          · replace hc := of_decide_eq_true hc
                            rw [if_pos hc] at h
                            have hc154 := hc
                            clear hc
                            refine WP.regionP [3, 11, 12, 13, 14] (L' := [(3, .slice Al3 l3.length cl3), (11, .slice AR133 t131.length cR133), (12, .int .i64 y138), (13, .int .i64 (IntKind.i64.wrap ((IntKind.i64.wrap (y144 + 1)) - 1))), (14, .int .i64 y145)]) (by kernel_rfl) ?_
                            refine QP.blockN ?_
                            refine QP.next ?_
                            refine WP.pick [3, 11, 12, 13, 14] ?_
                            refine WP.regionP [3, 11, 12, 13, 14] (L' := [(3, .slice Al3 l3.length cl3), (11, .slice AR133 t131.length cR133), (12, .int .i64 y138), (13, .int .i64 (IntKind.i64.wrap ((IntKind.i64.wrap (y144 + 1)) - 1))), (14, .int .i64 (IntKind.i64.wrap (y145 + 1)))]) (by kernel_rfl) ?_
                            refine QP.pick [3, 11, 12, 13, 14] ?_
                            exact QP.meet ⟨kn147, Nat.lt_succ_self _, (IntKind.i64.wrap ((IntKind.i64.wrap (y144 + 1)) - 1)), (IntKind.i64.wrap (y145 + 1)), h, rfl, rfl, rfl⟩
                          · replace hc := of_decide_eq_false hc
                            rw [if_neg hc] at h
                            have hc154 := hc
                            clear hc
                            refine WP.skip ?_
                            refine QP.blockN ?_
                            refine QP.next ?_
                            refine WP.pick [3, 11, 12, 13, 14] ?_
                            refine WP.regionP [3, 11, 12, 13, 14] (L' := [(3, .slice Al3 l3.length cl3), (11, .slice AR133 t131.length cR133), (12, .int .i64 y138), (13, .int .i64 (IntKind.i64.wrap (y144 + 1))), (14, .int .i64 (IntKind.i64.wrap (y145 + 1)))]) (by kernel_rfl) ?_
                            refine QP.pick [3, 11, 12, 13, 14] ?_
                            exact QP.meet ⟨kn147, Nat.lt_succ_self _, (IntKind.i64.wrap (y144 + 1)), (IntKind.i64.wrap (y145 + 1)), h, rfl, rfl, rfl⟩
                        · replace hc := of_decide_eq_false hc
                          rw [if_neg hc] at h
                          have hc151 := hc
                          clear hc
                          refine WP.skip ?_
                          refine QP.next ?_
                          refine WP.pick [3, 11, 12, 13, 14] ?_
                          refine WP.seq ?_
                          refine WP.any (N := 9) (S := [⟨some 98, [3], []⟩, ⟨some 99, [14], []⟩, ⟨some 100, [98, 99], [0, 1]⟩, ⟨some 101, [100], [2]⟩, ⟨some 102, [11], []⟩, ⟨some 103, [12], []⟩, ⟨some 104, [102, 103], [4, 5]⟩, ⟨some 105, [104], [6]⟩, ⟨some 106, [101, 105], [3, 7]⟩]) (kw := 9) (G0 := G) (Γ0 := CR133 :: Γ) mo (by kernel_rfl) (fun hS => ?_)
                          refine WA.pure [0, 1, 4, 5] [3, 11, 12, 13, 14, 98, 99, 102, 103] (m := 5) (b' := 51) (L' := [(3, .slice Al3 l3.length cl3), (11, .slice AR133 t131.length cR133), (12, .int .i64 y138), (13, .int .i64 y144), (14, .int .i64 y145), (98, .slice Al3 l3.length cl3), (99, .int .i64 y145), (102, .slice AR133 t131.length cR133), (103, .int .i64 y138)]) (by kernel_rfl) (NoPanic.then (NoPanic.block (NoPanic.then (NoPanic.then (NoPanic.block (NoPanic.then (NoPanic.then (NoPanic.block (NoPanic.then (NoPanic.then (NoPanic.block (NoPanic.then (NoPanic.then (NoPanic.body)))))))))))))) Under.refl hS (by kernel_rfl) ?_
                          by_cases hb155 : 0 ≤ y145 ∧ y145 < (l3.length : Int)
                          case neg => rw [if_neg hb155] at h; cases h
                          rw [if_pos hb155] at h
                          refine WA.tellD [] (i := 2) (m := 4) (b' := 55) (by kernel_rfl) (NoPanic.then (NoPanic.block (NoPanic.then (NoPanic.then (NoPanic.block (NoPanic.then (NoPanic.then (NoPanic.block (NoPanic.then (NoPanic.then (NoPanic.block (NoPanic.then (NoPanic.then (NoPanic.body)))))))))))))) Under.refl hS (by kernel_rfl) (op := .indexAddr 46 (.tmp 98) (.tmp 99)) (ty := 0) (d := some 100) (g := none) (by kernel_rfl) (by kernel_rfl) (by kernel_rfl) (Tells.indexAddr (A := Al3) (n := l3.length) (c := cl3) (k := .i64) (j := y145) (by kernel_rfl) (by kernel_rfl) (Hl3.isSome hb155.1 hb155.2) hb155.1 hb155.2 sl46) ?_
                          refine WA.tellDE [] (i := 3) (m := 3) (b' := 63) (by kernel_rfl) (NoPanic.then (NoPanic.block (NoPanic.then (NoPanic.then (NoPanic.block (NoPanic.then (NoPanic.then (NoPanic.block (NoPanic.then (NoPanic.then (NoPanic.block (NoPanic.then (NoPanic.then (NoPanic.body)))))))))))))) Under.refl hS (by kernel_rfl) (op := .load 27 (.tmp 100)) (ty := 27) (d := some 101) (g := none) (by kernel_rfl) (by kernel_rfl) (by kernel_rfl) (Hl3.load (agg := true) hb155.1 hb155.2 z27 ag27 (fun h => by cases h) (by kernel_rfl)) ?_
                          rintro _ rfl
                          by_cases hb156 : 0 ≤ y138 ∧ y138 < (t131.length : Int)
                          case neg => rw [if_neg hb156] at h; cases h
                          rw [if_pos hb156] at h
                          refine WA.tellD [] (i := 6) (m := 2) (b' := 127) (by kernel_rfl) (NoPanic.then (NoPanic.block (NoPanic.then (NoPanic.then (NoPanic.block (NoPanic.then (NoPanic.then (NoPanic.block (NoPanic.then (NoPanic.then (NoPanic.block (NoPanic.then (NoPanic.then (NoPanic.body)))))))))))))) Under.refl hS (by kernel_rfl) (op := .indexAddr 46 (.tmp 102) (.tmp 103)) (ty := 0) (d := some 104) (g := none) (by kernel_rfl) (by kernel_rfl) (by kernel_rfl) (Tells.indexAddr (A := AR133) (n := t131.length) (c := cR133) (k := .i64) (j := y138) (by kernel_rfl) (by kernel_rfl) (HR133.isSome hb156.1 hb156.2) hb156.1 hb156.2 sl46) ?_
                          refine WA.tellDE [] (i := 7) (m := 1) (b' := 255) (by kernel_rfl) (NoPanic.then (NoPanic.block (NoPanic.then (NoPanic.then (NoPanic.block (NoPanic.then (NoPanic.then (NoPanic.block (NoPanic.then (NoPanic.then (NoPanic.block (NoPanic.then (NoPanic.then (NoPanic.body)))))))))))))) Under.refl hS (by kernel_rfl) (op := .load 27 (.tmp 104)) (ty := 27) (d := some 105) (g := none) (by kernel_rfl) (by kernel_rfl) (by kernel_rfl) (HR133.load (i := 0) rfl (agg := true) hb156.1 hb156.2 z27 ag27 (fun h => by cases h) (by kernel_rfl)) ?_
                          rintro _ rfl
                          refine WA.tellD [] (i := 8) (m := 0) (b' := 511) (by kernel_rfl) (NoPanic.then (NoPanic.block (NoPanic.then (NoPanic.then (NoPanic.block (NoPanic.then (NoPanic.then (NoPanic.block (NoPanic.then (NoPanic.then (NoPanic.block (NoPanic.then (NoPanic.then (NoPanic.body)))))))))))))) Under.refl hS (by kernel_rfl) (op := .binOp .eql 27 (.tmp 101) (.tmp 105) 27) (ty := 4) (d := some 106) (g := none) (by kernel_rfl) (by kernel_rfl) (by kernel_rfl) (Tells.eqAgg (xs := #[.int .i64 ((l3.getD y145.toNat z27).f0), .int .i64 ((l3.getD y145.toNat z27).f1), .int .i64 ((l3.getD y145.toNat z27).f2), .int .i64 ((l3.getD y145.toNat z27).f3), .string ((l3.getD y145.toNat z27).f4)]) (ys := #[.int .i64 ((t131.getD y138.toNat z27).f0), .int .i64 ((t131.getD y138.toNat z27).f1), .int .i64 ((t131.getD y138.toNat z27).f2), .int .i64 ((t131.getD y138.toNat z27).f3), .string ((t131.getD y138.toNat z27).f4)]) (ls := [.int ((l3.getD y145.toNat z27).f0) ((t131.getD y138.toNat z27).f0), .int ((l3.getD y145.toNat z27).f1) ((t131.getD y138.toNat z27).f1), .int ((l3.getD y145.toNat z27).f2) ((t131.getD y138.toNat z27).f2), .int ((l3.getD y145.toNat z27).f3) ((t131.getD y138.toNat z27).f3), .str ((l3.getD y145.toNat z27).f4) ((t131.getD y138.toNat z27).f4)]) (by kernel_rfl) (by kernel_rfl) (by kernel_rfl) eg27) ?_
                          refine WA.reput 106 (v := .bool ([.int ((l3.getD y145.toNat z27).f0) ((t131.getD y138.toNat z27).f0), .int ((l3.getD y145.toNat z27).f1) ((t131.getD y138.toNat z27).f1), .int ((l3.getD y145.toNat z27).f2) ((t131.getD y138.toNat z27).f2), .int ((l3.getD y145.toNat z27).f3) ((t131.getD y138.toNat z27).f3), .str ((l3.getD y145.toNat z27).f4) ((t131.getD y138.toNat z27).f4)].all Lf.ok)) (v' := .bool (decide ((l3.getD y145.toNat z27) = (t131.getD y138.toNat z27)))) (by kernel_rfl) (by exact (congrArg Value.bool (eqT27 (l3.getD y145.toNat z27) (t131.getD y138.toNat z27)))) ?_
                          refine WA.done hS (by kernel_rfl) ?_
                          refine QP.pick [3, 11, 12, 13, 14, 106] ?_
                          refine QP.next ?_
                          refine WP.cond (b := decide ((l3.getD y145.toNat z27) = (t131.getD y138.toNat z27))) (by kernel_rfl) (fun hc => ?_) (fun hc => ?_)
                          · replace hc := of_decide_eq_true hc
                            rw [if_pos hc] at h
                            have hc157 := hc
                            clear hc
                            refine WP.regionP [3, 11, 12, 13, 14] (L' := [(3, .slice Al3 l3.length cl3), (11, .slice AR133 t131.length cR133), (12, .int .i64 y138), (13, .int .i64 (IntKind.i64.wrap (y144 - 1))), (14, .int .i64 y145)]) (by kernel_rfl) ?_
                            refine QP.blockN ?_
                            refine QP.next ?_
                            refine WP.pick [3, 11, 12, 13, 14] ?_
                            refine WP.regionP [3, 11, 12, 13, 14] (L' := [(3, .slice Al3 l3.length cl3), (11, .slice AR133 t131.length cR133), (12, .int .i64 y138), (13, .int .i64 (IntKind.i64.wrap (y144 - 1))), (14, .int .i64 (IntKind.i64.wrap (y145 + 1)))]) (by kernel_rfl) ?_
                            refine QP.pick [3, 11, 12, 13, 14] ?_
                            exact QP.meet ⟨kn147, Nat.lt_succ_self _, (IntKind.i64.wrap (y144 - 1)), (IntKind.i64.wrap (y145 + 1)), h, rfl, rfl, rfl⟩
                          · replace hc := of_decide_eq_false hc
                            rw [if_neg hc] at h
                            have hc157 := hc
                            clear hc
                            refine WP.skip ?_
                            refine QP.blockN ?_
                            refine QP.next ?_
                            refine WP.pick [3, 11, 12, 13, 14] ?_
                            refine WP.regionP [3, 11, 12, 13, 14] (L' := [(3, .slice Al3 l3.length cl3), (11, .slice AR133 t131.length cR133), (12, .int .i64 y138), (13, .int .i64 y144), (14, .int .i64 (IntKind.i64.wrap (y145 + 1)))]) (by kernel_rfl) ?_
                            refine QP.pick [3, 11, 12, 13, 14] ?_
                            exact QP.meet ⟨kn147, Nat.lt_succ_self _, y144, (IntKind.i64.wrap (y145 + 1)), h, rfl, rfl, rfl⟩
                      · replace hc := of_decide_eq_false hc
                        rw [if_neg hc] at h
                        have hc148 := hc
                        clear hc
                        refine WP.exit ?_
                        refine QP.thenE ?_
                        refine QP.thenE ?_
                        refine QP.blockE ?_
                        refine QP.pick [3, 11, 12, 13] ?_
                        exact QP.meet ⟨_, Option.some.inj h, rfl, rfl, rfl⟩
                  · rintro _ _ _ ⟨s142, rfl, rfl, rfl, rfl⟩
                    clear h
                    replace h := hk143
                    refine QP.next ?_
                    refine WP.pick [3, 11, 12, 13] ?_
                    rw [Option.bind_eq_some_iff] at h
                    obtain ⟨os158, h, hk159⟩ := h
                    refine WP.cut (fun L' G' Γ' => ∃ s158 : Bool, s158 = os158 ∧ L' = [(3, .slice Al3 l3.length cl3), (11, .slice AR133 t131.length cR133), (12, .int .i64 y138), (126, .bool s158)] ∧ G = G' ∧ CR133 :: Γ = Γ') ?_ ?_
                    · clear hk159
                      skip
                      refine WP.any (N := 18) (S := [⟨some 109, [13], []⟩, ⟨some 110, [109], [0]⟩, ⟨some 111, [110], [1]⟩, ⟨some 112, [12, 111], [2]⟩, ⟨some 113, [111, 112], [2, 3]⟩, ⟨some 114, [111, 113], [2, 4]⟩, ⟨some 115, [11, 114], [5]⟩, ⟨some 116, [12, 114], [5]⟩, ⟨some 117, [114, 115, 116], [5, 6, 7]⟩, ⟨some 118, [114, 117], [5, 8]⟩, ⟨some 119, [11, 114], [5]⟩, ⟨some 120, [12, 114], [5]⟩, ⟨some 121, [114, 120], [5, 11]⟩, ⟨some 122, [114, 119, 121], [5, 10, 12]⟩, ⟨some 123, [114, 122], [5, 13]⟩, ⟨some 124, [114, 118, 123], [5, 9, 14]⟩, ⟨some 125, [111, 114, 124], [2, 5, 15]⟩, ⟨some 126, [111, 125], [2, 16]⟩]) (kw := 18) (G0 := G) (Γ0 := CR133 :: Γ) mo (by kernel_rfl) (fun hS => ?_)
                      refine WA.pure [0, 1, 2] [3, 11, 12, 111] (m := 15) (b' := 7) (L' := [(3, .slice Al3 l3.length cl3), (11, .slice AR133 t131.length cR133), (12, .int .i64 y138), (111, .bool (s142 != 0))]) (by kernel_rfl) (NoPanic.then (NoPanic.block (NoPanic.then (NoPanic.then (NoPanic.block (NoPanic.then (NoPanic.then (NoPanic.body)))))))) Under.refl hS (by kernel_rfl) ?_
                      refine WA.split 111 (b := (s142 != 0)) (by kernel_rfl) (fun hc => ?_) (fun hc => ?_)
                      · replace hc := (bne_iff_ne.1 hc)
                        rw [if_pos hc] at h
                        have hc160 := hc
                        clear hc
                        refine WA.pure [3, 4, 5, 6, 7, 8, 9, 10, 11, 12, 13, 14, 15, 16, 17] [3, 11, 12, 126] (m := 0) (b' := 262143) (L' := [(3, .slice Al3 l3.length cl3), (11, .slice AR133 t131.length cR133), (12, .int .i64 y138), (126, .bool true)]) (by kernel_rfl) (NoPanic.then (NoPanic.block (NoPanic.then (NoPanic.then (NoPanic.block (NoPanic.then (NoPanic.then (NoPanic.body)))))))) Under.refl hS (by kernel_rfl) ?_
                        refine WA.done hS (by kernel_rfl) ?_
                        refine QP.pick [3, 11, 12, 126] ?_
                        refine QP.pick [3, 11, 12, 126] ?_
                        exact QP.meet ⟨_, Option.some.inj h, rfl, rfl, rfl⟩
                      · replace hc := (not_not_intro (bne_eq_false_iff_eq.1 hc))
                        rw [if_neg hc] at h
                        have hc160 := hc
                        clear hc
                        refine WA.pure [3, 4, 5] [3, 11, 12, 111, 114] (m := 12) (b' := 63) (L' := [(3, .slice Al3 l3.length cl3), (11, .slice AR133 t131.length cR133), (12, .int .i64 y138), (111, .bool false), (114, .bool (decide (y138 > 0)))]) (by kernel_rfl) (NoPanic.then (NoPanic.block (NoPanic.then (NoPanic.then (NoPanic.block (NoPanic.then (NoPanic.then (NoPanic.body)))))))) Under.refl hS (by kernel_rfl) ?_
                        refine WA.split 114 (b := decide (y138 > 0)) (by kernel_rfl) (fun hc => ?_) (fun hc => ?_)
                        · replace hc := of_decide_eq_true hc
                          rw [if_pos hc] at h
                          have hc161 := hc
                          clear hc
                          refine WA.pure [6, 7, 10, 11, 12] [3, 11, 12, 111, 114, 115, 116, 119, 121] (m := 7) (b' := 7423) (L' := [(3, .slice Al3 l3.length cl3), (11, .slice AR133 t131.length cR133), (12, .int .i64 y138), (111, .bool false), (114, .bool true), (115, .slice AR133 t131.length cR133), (116, .int .i64 y138), (119, .slice AR133 t131.length cR133), (121, .int .i64 (IntKind.i64.wrap (y138 - 1)))]) (by kernel_rfl) (NoPanic.then (NoPanic.block (NoPanic.then (NoPanic.then (NoPanic.block (NoPanic.then (NoPanic.then (NoPanic.body)))))))) Under.refl hS (by kernel_rfl) ?_
                          by_cases hb162 : 0 ≤ y138 ∧ y138 < (t131.length : Int)
                          case neg => rw [if_neg hb162] at h; cases h
                          rw [if_pos hb162] at h
                          refine WA.tellD [] (i := 8) (m := 6) (b' := 7679) (by kernel_rfl) (NoPanic.then (NoPanic.block (NoPanic.then (NoPanic.then (NoPanic.block (NoPanic.then (NoPanic.then (NoPanic.body)))))))) Under.refl hS (by kernel_rfl) (op := .indexAddr 46 (.tmp 115) (.tmp 116)) (ty := 0) (d := some 117) (g := some (5, true)) (by kernel_rfl) (by kernel_rfl) (by kernel_rfl) (Tells.indexAddr (A := AR133) (n := t131.length) (c := cR133) (k := .i64) (j := y138) (by kernel_rfl) (by kernel_rfl) (HR133.isSome hb162.1 hb162.2) hb162.1 hb162.2 sl46) ?_
                          refine WA.tellDE [] (i := 9) (m := 5) (b' := 8191) (by kernel_rfl) (NoPanic.then (NoPanic.block (NoPanic.then (NoPanic.then (NoPanic.block (NoPanic.then (NoPanic.then (NoPanic.body)))))))) Under.refl hS (by kernel_rfl) (op := .load 27 (.tmp 117)) (ty := 27) (d := some 118) (g := some (5, true)) (by kernel_rfl) (by kernel_rfl) (by kernel_rfl) (HR133.load (i := 0) rfl (agg := true) hb162.1 hb162.2 z27 ag27 (fun h => by cases h) (by kernel_rfl)) ?_
                          rintro _ rfl
                          by_cases hb163 : 0 ≤ (IntKind.i64.wrap (y138 - 1)) ∧ (IntKind.i64.wrap (y138 - 1)) < (t131.length : Int)
                          case neg => rw [if_neg hb163] at h; cases h
                          rw [if_pos hb163] at h
                          refine WA.tellD [] (i := 13) (m := 4) (b' := 16383) (by kernel_rfl) (NoPanic.then (NoPanic.block (NoPanic.then (NoPanic.then (NoPanic.block (NoPanic.then (NoPanic.then (NoPanic.body)))))))) Under.refl hS (by kernel_rfl) (op := .indexAddr 46 (.tmp 119) (.tmp 121)) (ty := 0) (d := some 122) (g := some (5, true)) (by kernel_rfl) (by kernel_rfl) (by kernel_rfl) (Tells.indexAddr (A := AR133) (n := t131.length) (c := cR133) (k := .i64) (j := (IntKind.i64.wrap (y138 - 1))) (by kernel_rfl) (by kernel_rfl) (HR133.isSome hb163.1 hb163.2) hb163.1 hb163.2 sl46) ?_
                          refine WA.tellDE [] (i := 14) (m := 3) (b' := 32767) (by kernel_rfl) (NoPanic.then (NoPanic.block (NoPanic.then (NoPanic.then (NoPanic.block (NoPanic.then (NoPanic.then (NoPanic.body)))))))) Under.refl hS (by kernel_rfl) (op := .load 27 (.tmp 122)) (ty := 27) (d := some 123) (g := some (5, true)) (by kernel_rfl) (by kernel_rfl) (by kernel_rfl) (HR133.load (i := 0) rfl (agg := true) hb163.1 hb163.2 z27 ag27 (fun h => by cases h) (by kernel_rfl)) ?_
                          rintro _ rfl
                          rw [Option.bind_eq_some_iff] at h
                          obtain ⟨t164, ht165, h⟩ := h
                          refine WA.op (i := 15) (m := 2) (b' := 65535) (by kernel_rfl) hS (by kernel_rfl) (op := .call { callee := (.value (.func 34)), args := #[(.tmp 118), (.tmp 123)], argTypes := #[27, 27] }) (ty := 4) (d := some 124) (g := some (5, true)) (by kernel_rfl) (by kernel_rfl) (by kernel_rfl) (Does.call (f := 34) (args := [.agg #[.int .i64 ((t131.getD y138.toNat z27).f0), .int .i64 ((t131.getD y138.toNat z27).f1), .int .i64 ((t131.getD y138.toNat z27).f2), .int .i64 ((t131.getD y138.toNat z27).f3), .string ((t131.getD y138.toNat z27).f4)], .agg #[.int .i64 ((t131.getD (IntKind.i64.wrap (y138 - 1)).toNat z27).f0), .int .i64 ((t131.getD (IntKind.i64.wrap (y138 - 1)).toNat z27).f1), .int .i64 ((t131.getD (IntKind.i64.wrap (y138 - 1)).toNat z27).f2), .int .i64 ((t131.getD (IntKind.i64.wrap (y138 - 1)).toNat z27).f3), .string ((t131.getD (IntKind.i64.wrap (y138 - 1)).toNat z27).f4)]]) (by kernel_rfl) (fun W hI => (record_Less_calls (t131.getD y138.toNat z27) (t131.getD (IntKind.i64.wrap (y138 - 1)).toNat z27)  t164 ht165 hI))) ?_
                          rintro _ _ _ ⟨rfl, rfl, rfl⟩
                          refine ⟨_, _, Under.refl, Under.refl, ?_⟩
                          refine WA.pure [16, 17] [3, 11, 12, 126] (m := 0) (b' := 262143) (L' := [(3, .slice Al3 l3.length cl3), (11, .slice AR133 t131.length cR133), (12, .int .i64 y138), (126, .bool t164)]) (by kernel_rfl) (NoPanic.then (NoPanic.block (NoPanic.then (NoPanic.then (NoPanic.block (NoPanic.then (NoPanic.then (NoPanic.body)))))))) Under.refl hS (by kernel_rfl) ?_
                          refine WA.done hS (by kernel_rfl) ?_
                          refine QP.pick [3, 11, 12, 126] ?_
                          refine QP.pick [3, 11, 12, 126] ?_
                          exact QP.meet ⟨_, Option.some.inj h, rfl, rfl, rfl⟩
                        · replace hc := of_decide_eq_false hc
                          rw [if_neg hc] at h
                          have hc161 := hc
                          clear hc
                          refine WA.pure [6, 7, 8, 9, 10, 11, 12, 13, 14, 15, 16, 17] [3, 11, 12, 126] (m := 0) (b' := 262143) (L' := [(3, .slice Al3 l3.length cl3), (11, .slice AR133 t131.length cR133), (12, .int .i64 y138), (126, .bool false)]) (by kernel_rfl) (NoPanic.then (NoPanic.block (NoPanic.then (NoPanic.then (NoPanic.block (NoPanic.then (NoPanic.then (NoPanic.body)))))))) Under.refl hS (by kernel_rfl) ?_
                          refine WA.done hS (by kernel_rfl) ?_
                          refine QP.pick [3, 11, 12, 126] ?_
                          refine QP.pick [3, 11, 12, 126] ?_
                          exact QP.meet ⟨_, Option.some.inj h, rfl, rfl, rfl⟩
                    · rintro _ _ _ ⟨s158, rfl, rfl, rfl, rfl⟩
                      clear h
                      replace h := hk159
                      refine WP.cond (b := s158) (by kernel_rfl) (fun hc => ?_) (fun hc => ?_)
                      · replace hc := hc
                        rw [if_pos hc] at h
                        have hc168 := hc
                        clear hc
                        refine WP.seqP [8] (L' := [(8, .bool false)]) (by kernel_rfl) ?_
                        refine WP.dropAt 0 ?_
                        refine WP.ret ?_
                        refine QP.blockR ?_
                        refine QP.thenR ?_
                        refine QP.thenR ?_
                        refine QP.blockR ?_
                        refine QP.thenR ?_
                        refine QP.thenR ?_
                        obtain rfl := Option.some.inj h
                        obtain rfl := Option.some.inj (show some _ = some _ from hk137)
                        exact QP.returned [8] [.bool false] _ (by kernel_rfl) (by kernel_rfl) (by kernel_rfl) (fun W hI => ⟨_, _, _, rfl, ⟨rfl, rfl, rfl⟩, hI⟩)
                      · replace hc := (Bool.eq_false_iff.1 hc)
                        rw [if_neg hc] at h
                        have hc168 := hc
                        clear hc
                        refine WP.skip ?_
                        refine QP.blockN ?_
                        refine QP.next ?_
                        refine WP.pick [3, 11, 12] ?_
                        refine WP.regionP [3, 11, 12] (L' := [(3, .slice Al3 l3.length cl3), (11, .slice AR133 t131.length cR133), (12, .int .i64 (IntKind.i64.wrap (y138 + 1)))]) (by kernel_rfl) ?_
                        refine QP.pick [3, 11, 12] ?_
                        exact QP.meet ⟨kn140, Nat.lt_succ_self _, (IntKind.i64.wrap (y138 + 1)), h, rfl, rfl, rfl⟩
                · replace hc := of_decide_eq_false hc
                  rw [if_neg hc] at h
                  have hc141 := hc
                  clear hc
                  refine WP.exit ?_
                  refine QP.thenE ?_
                  refine QP.thenE ?_
                  refine QP.blockE ?_
                  refine QP.pick [11] ?_
                  exact QP.meet ⟨_, Option.some.inj h, rfl, rfl, rfl⟩
            · rintro _ _ _ ⟨s136, rfl, rfl, rfl, rfl⟩
              clear h
              replace h := hk137
              dsimp only at h
              refine QP.next ?_
              refine WP.pick [11] ?_
              rw [Option.bind_eq_some_iff] at h
              obtain ⟨os169, h, hk170⟩ := h
              refine WP.cut (fun L' G' Γ' => ∃ s169 : Bool, s169 = os169 ∧ L' = [(8, .bool s169)] ∧ G = G' ∧ Γ = Γ') ?_ ?_
              · clear hk170
                refine WP.region ?_
                refine WL.pure 0 1 [11, 127] (L' := [(11, .slice AR133 t131.length cR133), (127, .slice AR133 t131.length cR133)]) (by kernel_rfl) (by decide) ?_
                rw [Option.bind_eq_some_iff] at h
                obtain ⟨t171, ht172, h⟩ := h
                refine WL.op (op := .call { callee := (.value (.func 28)), args := #[(.tmp 127)], argTypes := #[46] }) (ty := 46) (d := some 128) (g := none) (by kernel_rfl) (by kernel_rfl) (by kernel_rfl) (Does.call (Φ := fun v' G' Γ' => ∃ (AR173 : Option Addr), ∃ (cR173 : Nat), ∃ (CR173 : Chunk), v' = .slice AR173 t171.length cR173 ∧ Ow k27 G AR173 cR173 t171 CR173 ∧ G = G' ∧ CR173 :: CR133 :: Γ = Γ') (f := 28) (args := [.slice AR133 t131.length cR133]) (by kernel_rfl) (fun W hI => (Calls.lendN (Φ := fun v' N => ∃ (AR173 : Option Addr), ∃ (cR173 : Nat), ∃ (CR173 : Chunk), v' = .slice AR173 t171.length cR173 ∧ Ow k27 G AR173 cR173 t171 CR173 ∧ N = [CR173]) (H := []) (i := 0) rfl hI (fun _ e l175 nl175 hI => by subst e; exact (((record_Sort_calls k t131 AR133 cR133 (HR133.rdN l175 nl175) t171 ht172 hI)).mono fun _ _ hr => by obtain ⟨_, _, _, rfl, hd, hI⟩ := hr; obtain ⟨AR173, cR173, CR173, rfl, HR173, rfl, rfl⟩ := hd; exact ⟨_, _, _, rfl, ⟨[CR173], ⟨AR173, cR173, CR173, rfl, (HR173.flat (kFlat_flat _ _ _ _)), rfl⟩, rfl, rfl⟩, hI⟩))).mono fun _ _ hr => by obtain ⟨_, _, _, rfl, ⟨_, hd, rfl, rfl⟩, hI⟩ := hr; obtain ⟨AR173, cR173, CR173, rfl, HR173, rfl⟩ := hd; exact ⟨_, _, _, rfl, ⟨AR173, cR173, CR173, rfl, HR173, rfl, rfl⟩, hI⟩)) ?_
                rintro _ _ _ ⟨AR173, cR173, CR173, rfl, HR173, rfl, rfl⟩
                refine WL.pure 2 3 [128, 129] (L' := [(128, .slice AR173 t171.length cR173), (129, .slice AR133 t131.length cR133)]) (by kernel_rfl) (by decide) ?_
                rw [Option.bind_eq_some_iff] at h
                obtain ⟨t176, ht177, h⟩ := h
                refine WL.op (op := .call { callee := (.value (.func 29)), args := #[(.tmp 128), (.tmp 129)], argTypes := #[46, 46] }) (ty := 4) (d := some 130) (g := none) (by kernel_rfl) (by kernel_rfl) (by kernel_rfl) (Does.call (Φ := fun v' G' Γ' => v' = .bool t176 ∧ G = G' ∧ CR173 :: CR133 :: Γ = Γ') (f := 29) (args := [.slice AR173 t171.length cR173, .slice AR133 t131.length cR133]) (by kernel_rfl) (fun W hI => (Calls.lendN (Φ := fun v' N => v' = .bool t176 ∧ N = []) (H := []) (i := 0) rfl hI (fun _ e l180 nl180 hI => by subst e; exact Calls.lendN (Φ := fun v' N => v' = .bool t176 ∧ N = []) (H := []) (i := 1) rfl hI (fun _ e l181 nl181 hI => by subst e; exact (((grapevinelaw0_SameRecords_calls k t171 t131 AR173 cR173 ((HR173.rdN l180 nl180).mono l181) AR133 cR133 ((HR133.mono l180).rdN l181 nl181) t176 ht177 hI)).mono fun _ _ hr => by obtain ⟨_, _, _, rfl, hd, hI⟩ := hr; obtain ⟨rfl, rfl, rfl⟩ := hd; exact ⟨_, _, _, rfl, ⟨[], ⟨rfl, rfl⟩, rfl, rfl⟩, hI⟩)))).mono fun _ _ hr => by obtain ⟨_, _, _, rfl, ⟨_, hd, rfl, rfl⟩, hI⟩ := hr; obtain ⟨rfl, rfl⟩ := hd; exact ⟨_, _, _, rfl, ⟨rfl, rfl, rfl⟩, hI⟩)) ?_
                rintro _ _ _ ⟨rfl, rfl, rfl⟩
                refine WL.pure 4 5 [131] (L' := [(131, .bool t176)]) (by kernel_rfl) (by decide) ?_
                refine WL.split 131 (b := t176) (by kernel_rfl) (fun hc => ?_) (fun hc => ?_)
                · replace hc := hc
                  rw [if_pos hc] at h
                  have hc182 := hc
                  clear hc
                  rw [Option.bind_eq_some_iff] at h
                  obtain ⟨t183, ht184, h⟩ := h
                  refine WL.op (op := .call { callee := (.value (.func 13)), args := #[], argTypes := #[] }) (ty := 4) (d := some 132) (g := some (4, true)) (by kernel_rfl) (by kernel_rfl) (by kernel_rfl) (Does.call (f := 13) (args := []) (by kernel_rfl) (fun W hI => (grapevinelaw4_awake_calls HT k   t183 ht184 hI))) ?_
                  rintro _ _ _ ⟨rfl, rfl, rfl⟩
                  refine WL.rest 6 [8] (L' := [(8, .bool t183)]) (by kernel_rfl) ?_
                  refine QP.dropAt 1 ?_
                  refine QP.dropAt 0 ?_
                  refine QP.pick [8] ?_
                  exact QP.meet ⟨_, Option.some.inj h, rfl, rfl, rfl⟩
                · replace hc := (Bool.eq_false_iff.1 hc)
                  rw [if_neg hc] at h
                  have hc182 := hc
                  clear hc
                  refine WL.rest 5 [8] (L' := [(8, .bool false)]) (by kernel_rfl) ?_
                  refine QP.dropAt 1 ?_
                  refine QP.dropAt 0 ?_
                  refine QP.pick [8] ?_
                  exact QP.meet ⟨_, Option.some.inj h, rfl, rfl, rfl⟩
              · rintro _ _ _ ⟨s169, rfl, rfl, rfl, rfl⟩
                clear h
                replace h := hk170
                refine WP.ret ?_
                obtain rfl := Option.some.inj h
                exact QP.returned [8] [.bool s169] _ (by kernel_rfl) (by kernel_rfl) (by kernel_rfl) (fun W hI => ⟨_, _, _, rfl, ⟨rfl, rfl, rfl⟩, hI⟩)
/-- The plain law. -/
def RecordOrder_Pure : Prop := ∀ (a0 : T27) (a1 : T27) (a2 : T27) (l3 : List T27), ((Lit.int .i64 a0.f0).wf = true ∧ (Lit.int .i64 a0.f1).wf = true ∧ (Lit.int .i64 a0.f2).wf = true ∧ (Lit.int .i64 a0.f3).wf = true ∧ a0.f4.size ≤ maxLen) → ((Lit.int .i64 a1.f0).wf = true ∧ (Lit.int .i64 a1.f1).wf = true ∧ (Lit.int .i64 a1.f2).wf = true ∧ (Lit.int .i64 a1.f3).wf = true ∧ a1.f4.size ≤ maxLen) → ((Lit.int .i64 a2.f0).wf = true ∧ (Lit.int .i64 a2.f1).wf = true ∧ (Lit.int .i64 a2.f2).wf = true ∧ (Lit.int .i64 a2.f3).wf = true ∧ a2.f4.size ≤ maxLen) → (l3.length ≤ maxLen ∧ ∀ z0 ∈ l3, ((Lit.int .i64 z0.f0).wf = true ∧ (Lit.int .i64 z0.f1).wf = true ∧ (Lit.int .i64 z0.f2).wf = true ∧ (Lit.int .i64 z0.f3).wf = true ∧ z0.f4.size ≤ maxLen)) → ∃ k, grapevinelaw4_RecordOrder k a0 a1 a2 l3 = some true
end Go.Proofs.YtjmhhmljldjmjaaDoor.Gf
