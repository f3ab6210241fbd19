/- Walks of Go functions: what each tells, as a plain Lean function, and that the Go code comes to it. Written by gg.py of this repo. -/
import Derived.Test.YtanogihdhnhpaaaT
import Derived.Test.YtanogihdhnhpaaaF0
import Derived.Test.YtanogihdhnhpaaaF1
namespace Go.Proofs.Ytanogihdhnhpaaa.Gf
open Go Go.Gg
set_option maxRecDepth 100000
set_option linter.unusedVariables false
set_option linter.unusedSimpArgs false

/-! ### grapevine/grapevinelaw6.FrameRows: function 9 -/
def grapevinelaw6_FrameRows_l0 (l0 : List (List Int)) (t7 : Int) : Nat → (List Int) → Int → Option (Sum Bool (List Int))
  | 0, _, _ => none
  | k + 1, y11, y12 => (if y12 < (l0.length : Int) then (if 0 ≤ y12 ∧ y12 < (l0.length : Int) then (if ((l0.getD y12.toNat []).length : Int) > 100 then ((grapevinelaw6_awake k ).bind fun t19 => some (Sum.inl t19)) else (if 0 ≤ y12 ∧ y12 < (l0.length : Int) then ((frame_Lay k (IntKind.i64.wrap (1 + t7)) (l0.getD y12.toNat [])).bind fun t23 => ((if ¬ t23.2 = 0 then some true else (if 0 ≤ y12 ∧ y12 < (l0.length : Int) then some ((t23.1.length : Int) != (IntKind.i64.wrap (((l0.getD y12.toNat []).length : Int) + 12))) else none)).bind fun s26 => (if s26 = true then some (Sum.inl false) else (if y11.length + t23.1.length ≤ 1073741824 then grapevinelaw6_FrameRows_l0 l0 t7 k (y11 ++ t23.1) (IntKind.i64.wrap (y12 + 1)) else none)))) else none)) else none) else some (Sum.inr y11))
def grapevinelaw6_FrameRows (k : Nat) (l0 : List (List Int)) (a1 : Int) (l2 : List Int) : Option Bool := ((if (l0.length : Int) > 12 then some true else some (decide ((l2.length : Int) > 100))).bind fun s1 => (if s1 = true then ((grapevinelaw6_awake k ).bind fun t5 => some t5) else ((grapevinelaw0_Low a1 255).bind fun t7 => ((grapevinelaw6_FrameRows_l0 l0 t7 k ([] : List Int) 0).bind fun os9 => match os9 with | Sum.inl r => some r | Sum.inr s9 => ((frame_Count k s9).bind fun t34 => ((if ¬ t34.1 = (l0.length : Int) then some true else some (t34.2 != (s9.length : Int))).bind fun s37 => (if s37 = true then some false else ((frame_Next k l2 0).bind fun t41 => (if ([] : List Int).length + s9.length ≤ 1073741824 then (if (([] : List Int) ++ s9).length + l2.length ≤ 1073741824 then ((frame_Count k ((([] : List Int) ++ s9) ++ l2)).bind fun t48 => ((if t41.2.2.2 = true then ((grapevinelaw6_awake k ).bind fun t54 => some t54) else (if t48.1 = t34.1 then (if t48.2 = t34.2 then ((grapevinelaw6_awake k ).bind fun t58 => some t58) else some false) else some false)).bind fun s51 => some s51)) else none) else none)))))))))
set_option maxHeartbeats 4000000 in
theorem grapevinelaw6_FrameRows_calls {B : World} {G : GMap} {Γ : List Chunk} {W : World} (k : Nat) (l0 : List (List Int)) (a1 : Int) (l2 : List Int) (Al0 : Option Addr) (cl0 : Nat) (Hl0 : Rd (kSlice (kInt .u8)) G Al0 cl0 l0) (Al2 : Option Addr) (cl2 : Nat) (Hl2 : Rd (kInt .u8) G Al2 cl2 l2) (r : Bool) (h : grapevinelaw6_FrameRows k l0 a1 l2 = some r) (hI : Inv B G (Γ) W) :
    Calls Try.prog 9 [.slice Al0 l0.length cl0, .int .i64 a1, .slice Al2 l2.length cl2].toArray W (Ret B (fun v G' Γ' => v = .bool r ∧ G = G' ∧ Γ = Γ')) := by
  refine calls_WP (Γ := Γ) (G := G) (B := B) Try.func9 rfl (by kernel_rfl) ?_ hI
  clear hI
  unfold grapevinelaw6_FrameRows at h
  refine WP.seqP [0, 1, 2] (L' := [(0, .slice Al0 l0.length cl0), (1, .int .i64 a1), (2, .slice Al2 l2.length cl2)]) (by kernel_rfl) ?_
  refine WP.seq ?_
  rw [Option.bind_eq_some_iff] at h
  obtain ⟨os1, h, hk2⟩ := h
  refine WP.cut (fun L' G' Γ' => ∃ s1 : Bool, s1 = os1 ∧ L' = [(0, .slice Al0 l0.length cl0), (1, .int .i64 a1), (2, .slice Al2 l2.length cl2), (26, .bool s1)] ∧ G = G' ∧ Γ = Γ') ?_ ?_
  · clear hk2
    refine WP.region ?_
    refine WL.pure 0 4 [0, 1, 2, 22] (L' := [(0, .slice Al0 l0.length cl0), (1, .int .i64 a1), (2, .slice Al2 l2.length cl2), (22, .bool (decide ((l0.length : Int) > 12)))]) (by kernel_rfl) (by decide) ?_
    refine WL.split 22 (b := decide ((l0.length : Int) > 12)) (by kernel_rfl) (fun hc => ?_) (fun hc => ?_)
    · replace hc := of_decide_eq_true hc
      rw [if_pos hc] at h
      have hc3 := hc
      clear hc
      refine WL.rest 4 [0, 1, 2, 26] (L' := [(0, .slice Al0 l0.length cl0), (1, .int .i64 a1), (2, .slice Al2 l2.length cl2), (26, .bool true)]) (by kernel_rfl) ?_
      refine QP.pick [0, 1, 2, 26] ?_
      exact QP.meet ⟨_, Option.some.inj h, rfl, rfl, rfl⟩
    · replace hc := of_decide_eq_false hc
      rw [if_neg hc] at h
      have hc3 := hc
      clear hc
      refine WL.rest 4 [0, 1, 2, 26] (L' := [(0, .slice Al0 l0.length cl0), (1, .int .i64 a1), (2, .slice Al2 l2.length cl2), (26, .bool (decide ((l2.length : Int) > 100)))]) (by kernel_rfl) ?_
      refine QP.pick [0, 1, 2, 26] ?_
      exact QP.meet ⟨_, Option.some.inj h, rfl, rfl, rfl⟩
  · rintro _ _ _ ⟨s1, rfl, rfl, rfl, rfl⟩
    clear h
    replace h := hk2
    refine WP.cond (b := s1) (by kernel_rfl) (fun hc => ?_) (fun hc => ?_)
    · replace hc := hc
      rw [if_pos hc] at h
      have hc4 := hc
      clear hc
      refine WP.seqR ?_
      rw [Option.bind_eq_some_iff] at h
      obtain ⟨t5, ht6, h⟩ := h
      refine WL.op (op := .call { callee := (.value (.func 18)), args := #[], argTypes := #[] }) (ty := 4) (d := some 27) (g := none) (by kernel_rfl) (by kernel_rfl) (by kernel_rfl) (Does.call (f := 18) (args := []) (by kernel_rfl) (fun W hI => (grapevinelaw6_awake_calls k   t5 ht6 hI))) ?_
      rintro _ _ _ ⟨rfl, rfl, rfl⟩
      refine WL.restQ 1 [6] (L' := [(6, .bool t5)]) (by kernel_rfl) ?_
      refine WP.ret ?_
      refine QP.thenR ?_
      obtain rfl := Option.some.inj h
      exact QP.returned [6] [.bool t5] _ (by kernel_rfl) (by kernel_rfl) (by kernel_rfl) (fun W hI => ⟨_, _, _, rfl, ⟨rfl, rfl, rfl⟩, hI⟩)
    · replace hc := (Bool.eq_false_iff.1 hc)
      rw [if_neg hc] at h
      have hc4 := hc
      clear hc
      refine WP.skip ?_
      refine QP.next ?_
      refine WP.pick [0, 1, 2] ?_
      refine WP.seqR ?_
      refine WL.pure 0 1 [0, 1, 2, 28] (L' := [(0, .slice Al0 l0.length cl0), (1, .int .i64 a1), (2, .slice Al2 l2.length cl2), (28, .int .i64 a1)]) (by kernel_rfl) (by decide) ?_
      rw [Option.bind_eq_some_iff] at h
      obtain ⟨t7, ht8, h⟩ := h
      refine WL.op (op := .call { callee := (.value (.func 17)), args := #[(.tmp 28), (.const (.int .i64 255))], argTypes := #[3, 3] }) (ty := 3) (d := some 29) (g := none) (by kernel_rfl) (by kernel_rfl) (by kernel_rfl) (Does.call (f := 17) (args := [.int .i64 a1, .int .i64 255]) (by kernel_rfl) (fun W hI => (grapevinelaw0_Low_calls a1 255  t7 ht8 hI))) ?_
      rintro _ _ _ ⟨rfl, rfl, rfl⟩
      refine WL.restQ 2 [0, 1, 2] (L' := [(0, .slice Al0 l0.length cl0), (1, .int .i64 (IntKind.i64.wrap (1 + t7))), (2, .slice Al2 l2.length cl2)]) (by kernel_rfl) ?_
      refine WP.seqP [0, 1, 2, 7] (L' := [(0, .slice Al0 l0.length cl0), (1, .int .i64 (IntKind.i64.wrap (1 + t7))), (2, .slice Al2 l2.length cl2), (7, .slice none 0 0)]) (by kernel_rfl) ?_
      refine WP.seq ?_
      refine WP.seqP [0, 1, 2, 7, 8] (L' := [(0, .slice Al0 l0.length cl0), (1, .int .i64 (IntKind.i64.wrap (1 + t7))), (2, .slice Al2 l2.length cl2), (7, .slice none 0 0), (8, .int .i64 0)]) (by kernel_rfl) ?_
      rw [Option.bind_eq_some_iff] at h
      obtain ⟨os9, h, hk10⟩ := h
      refine WP.cutQ (fun L' G' Γ' => ∃ s9 : (List Int), Sum.inr s9 = os9 ∧ ∃ (As9 : Option Addr), ∃ (cs9 : Nat), ∃ (Cs9 : Chunk), L' = [(0, .slice Al0 l0.length cl0), (2, .slice Al2 l2.length cl2), (7, .slice As9 s9.length cs9)] ∧ G = G' ∧ Cs9 :: Γ = Γ' ∧ Ow (kInt .u8) G As9 cs9 s9 Cs9) ?_ ?_
      · skip
        refine WP.block ?_
        refine WP.addNil ?_
        refine WP.pick [0, 1, 2, 7, 8] ?_
        refine WP.loopF (fun k13 L' G' Γ' => ∃ (y11 : List Int), ∃ (y12 : Int), grapevinelaw6_FrameRows_l0 l0 t7 k13 y11 y12 = some os9 ∧ ∃ (Ay11 : Option Addr), ∃ (cy11 : Nat), ∃ (Cy11 : Chunk), L' = [(0, .slice Al0 l0.length cl0), (1, .int .i64 (IntKind.i64.wrap (1 + t7))), (2, .slice Al2 l2.length cl2), (7, .slice Ay11 y11.length cy11), (8, .int .i64 y12)] ∧ G = G' ∧ Cy11 :: Γ = Γ' ∧ Ow (kInt .u8) G Ay11 cy11 y11 Cy11) ?_ k ⟨([] : List Int), 0, h, none, 0, [], rfl, rfl, rfl, (Ow.nil _ _)⟩
        clear h
        rintro k14 _ _ _ ⟨y11, y12, h, Ay11, cy11, Cy11, rfl, rfl, rfl, Hy11⟩
        cases k14 with
        | zero => exact absurd h (by simp [grapevinelaw6_FrameRows_l0])
        | succ k14 =>
          simp only [grapevinelaw6_FrameRows_l0] at h
          refine WP.seq ?_
          refine WP.seqP [0, 1, 2, 7, 8, 34] (L' := [(0, .slice Al0 l0.length cl0), (1, .int .i64 (IntKind.i64.wrap (1 + t7))), (2, .slice Al2 l2.length cl2), (7, .slice Ay11 y11.length cy11), (8, .int .i64 y12), (34, .bool (decide (y12 < (l0.length : Int))))]) (by kernel_rfl) ?_
          refine WP.cond (b := decide (y12 < (l0.length : Int))) (by kernel_rfl) (fun hc => ?_) (fun hc => ?_)
          · replace hc := of_decide_eq_true hc
            rw [if_pos hc] at h
            have hc15 := hc
            clear hc
            refine WP.skip ?_
            refine QP.next ?_
            refine WP.pick [0, 1, 2, 7, 8] ?_
            refine WP.seq ?_
            refine WP.block ?_
            refine WP.seq ?_
            refine WP.seqR ?_
            refine WL.pure 0 2 [0, 1, 2, 7, 8, 37, 38] (L' := [(0, .slice Al0 l0.length cl0), (1, .int .i64 (IntKind.i64.wrap (1 + t7))), (2, .slice Al2 l2.length cl2), (7, .slice Ay11 y11.length cy11), (8, .int .i64 y12), (37, .slice Al0 l0.length cl0), (38, .int .i64 y12)]) (by kernel_rfl) (by decide) ?_
            by_cases hb16 : 0 ≤ y12 ∧ y12 < (l0.length : Int)
            case neg => rw [if_neg hb16] at h; cases h
            rw [if_pos hb16] at h
            refine WL.tell (op := .indexAddr 22 (.tmp 37) (.tmp 38)) (ty := 0) (d := some 39) (g := none) (by kernel_rfl) (by kernel_rfl) (by kernel_rfl) (Tells.indexAddr (A := Al0) (n := l0.length) (c := cl0) (k := .i64) (j := y12) (by kernel_rfl) (by kernel_rfl) (Hl0.isSome hb16.1 hb16.2) hb16.1 hb16.2 sl22) ?_
            refine WL.tellE (op := .load 32 (.tmp 39)) (ty := 32) (d := some 40) (g := none) (by kernel_rfl) (by kernel_rfl) (by kernel_rfl) (Hl0.load (agg := false) hb16.1 hb16.2 [] ag32 (fun _ => rfl) (by kernel_rfl)) ?_
            rintro _ ⟨Ae17, ce17, rfl, He17⟩
            refine WL.restQ 4 [0, 1, 2, 7, 8, 42] (L' := [(0, .slice Al0 l0.length cl0), (1, .int .i64 (IntKind.i64.wrap (1 + t7))), (2, .slice Al2 l2.length cl2), (7, .slice Ay11 y11.length cy11), (8, .int .i64 y12), (42, .bool (decide (((l0.getD y12.toNat []).length : Int) > 100)))]) (by kernel_rfl) ?_
            refine WP.cond (b := decide (((l0.getD y12.toNat []).length : Int) > 100)) (by kernel_rfl) (fun hc => ?_) (fun hc => ?_)
            · replace hc := of_decide_eq_true hc
              rw [if_pos hc] at h
              have hc18 := hc
              clear hc
              refine WP.seqR ?_
              rw [Option.bind_eq_some_iff] at h
              obtain ⟨t19, ht20, h⟩ := h
              refine WL.op (op := .call { callee := (.value (.func 18)), args := #[], argTypes := #[] }) (ty := 4) (d := some 43) (g := none) (by kernel_rfl) (by kernel_rfl) (by kernel_rfl) (Does.call (f := 18) (args := []) (by kernel_rfl) (fun W hI => (grapevinelaw6_awake_calls k14   t19 ht20 hI))) ?_
              rintro _ _ _ ⟨rfl, rfl, rfl⟩
              refine WL.restQ 1 [6] (L' := [(6, .bool t19)]) (by kernel_rfl) ?_
              refine WP.ret ?_
              refine QP.thenR ?_
              refine QP.blockR ?_
              refine QP.thenR ?_
              refine QP.thenR ?_
              refine QP.blockR ?_
              refine QP.thenR ?_
              refine QP.thenR ?_
              obtain rfl := Option.some.inj h
              obtain rfl := Option.some.inj (show some _ = some _ from hk10)
              refine QP.dropAt 0 ?_
              exact QP.returned [6] [.bool t19] _ (by kernel_rfl) (by kernel_rfl) (by kernel_rfl) (fun W hI => ⟨_, _, _, rfl, ⟨rfl, rfl, rfl⟩, hI⟩)
            · replace hc := of_decide_eq_false hc
              rw [if_neg hc] at h
              have hc18 := hc
              clear hc
              refine WP.skip ?_
              refine QP.next ?_
              refine WP.pick [0, 1, 2, 7, 8] ?_
              refine WP.seqR ?_
              refine WL.pure 0 3 [0, 1, 2, 7, 8, 45, 46, 47] (L' := [(0, .slice Al0 l0.length cl0), (1, .int .i64 (IntKind.i64.wrap (1 + t7))), (2, .slice Al2 l2.length cl2), (7, .slice Ay11 y11.length cy11), (8, .int .i64 y12), (45, .int .i64 (IntKind.i64.wrap (1 + t7))), (46, .slice Al0 l0.length cl0), (47, .int .i64 y12)]) (by kernel_rfl) (by decide) ?_
              by_cases hb21 : 0 ≤ y12 ∧ y12 < (l0.length : Int)
              case neg => rw [if_neg hb21] at h; cases h
              rw [if_pos hb21] at h
              refine WL.tell (op := .indexAddr 22 (.tmp 46) (.tmp 47)) (ty := 0) (d := some 48) (g := none) (by kernel_rfl) (by kernel_rfl) (by kernel_rfl) (Tells.indexAddr (A := Al0) (n := l0.length) (c := cl0) (k := .i64) (j := y12) (by kernel_rfl) (by kernel_rfl) (Hl0.isSome hb21.1 hb21.2) hb21.1 hb21.2 sl22) ?_
              refine WL.tellE (op := .load 32 (.tmp 48)) (ty := 32) (d := some 49) (g := none) (by kernel_rfl) (by kernel_rfl) (by kernel_rfl) (Hl0.load (agg := false) hb21.1 hb21.2 [] ag32 (fun _ => rfl) (by kernel_rfl)) ?_
              rintro _ ⟨Ae22, ce22, rfl, He22⟩
              rw [Option.bind_eq_some_iff] at h
              obtain ⟨t23, ht24, h⟩ := h
              refine WL.op (op := .call { callee := (.value (.func 19)), args := #[(.tmp 45), (.tmp 49)], argTypes := #[3, 32] }) (ty := 37) (d := some 50) (g := none) (by kernel_rfl) (by kernel_rfl) (by kernel_rfl) (Does.call (f := 19) (args := [.int .i64 (IntKind.i64.wrap (1 + t7)), .slice Ae22 (l0.getD y12.toNat []).length ce22]) (by kernel_rfl) (fun W hI => (frame_Lay_calls k14 (IntKind.i64.wrap (1 + t7)) (l0.getD y12.toNat []) Ae22 ce22 He22 t23 ht24 hI))) ?_
              rintro _ _ _ ⟨AR25, cR25, CR25, rfl, HR25, rfl, rfl⟩
              refine WL.restQ 6 [0, 1, 2, 7, 8, 9, 10] (L' := [(0, .slice Al0 l0.length cl0), (1, .int .i64 (IntKind.i64.wrap (1 + t7))), (2, .slice Al2 l2.length cl2), (7, .slice Ay11 y11.length cy11), (8, .int .i64 y12), (9, .slice AR25 t23.1.length cR25), (10, .int .i64 t23.2)]) (by kernel_rfl) ?_
              refine WP.seq ?_
              rw [Option.bind_eq_some_iff] at h
              obtain ⟨os26, h, hk27⟩ := h
              refine WP.cut (fun L' G' Γ' => ∃ s26 : Bool, s26 = os26 ∧ L' = [(0, .slice Al0 l0.length cl0), (1, .int .i64 (IntKind.i64.wrap (1 + t7))), (2, .slice Al2 l2.length cl2), (7, .slice Ay11 y11.length cy11), (8, .int .i64 y12), (9, .slice AR25 t23.1.length cR25), (65, .bool s26)] ∧ G = G' ∧ CR25 :: Cy11 :: Γ = Γ') ?_ ?_
              · clear hk27
                refine WP.region ?_
                refine WL.pure 0 3 [0, 1, 2, 7, 8, 9, 55] (L' := [(0, .slice Al0 l0.length cl0), (1, .int .i64 (IntKind.i64.wrap (1 + t7))), (2, .slice Al2 l2.length cl2), (7, .slice Ay11 y11.length cy11), (8, .int .i64 y12), (9, .slice AR25 t23.1.length cR25), (55, .bool (t23.2 != 0))]) (by kernel_rfl) (by decide) ?_
                refine WL.split 55 (b := (t23.2 != 0)) (by kernel_rfl) (fun hc => ?_) (fun hc => ?_)
                · replace hc := (bne_iff_ne.1 hc)
                  rw [if_pos hc] at h
                  have hc28 := hc
                  clear hc
                  refine WL.rest 3 [0, 1, 2, 7, 8, 9, 65] (L' := [(0, .slice Al0 l0.length cl0), (1, .int .i64 (IntKind.i64.wrap (1 + t7))), (2, .slice Al2 l2.length cl2), (7, .slice Ay11 y11.length cy11), (8, .int .i64 y12), (9, .slice AR25 t23.1.length cR25), (65, .bool true)]) (by kernel_rfl) ?_
                  refine QP.pick [0, 1, 2, 7, 8, 9, 65] ?_
                  exact QP.meet ⟨_, Option.some.inj h, rfl, rfl, rfl⟩
                · replace hc := (not_not_intro (bne_eq_false_iff_eq.1 hc))
                  rw [if_neg hc] at h
                  have hc28 := hc
                  clear hc
                  refine WL.pure 3 7 [0, 1, 2, 7, 8, 9, 55, 57, 58, 59] (L' := [(0, .slice Al0 l0.length cl0), (1, .int .i64 (IntKind.i64.wrap (1 + t7))), (2, .slice Al2 l2.length cl2), (7, .slice Ay11 y11.length cy11), (8, .int .i64 y12), (9, .slice AR25 t23.1.length cR25), (55, .bool false), (57, .int .i64 (t23.1.length : Int)), (58, .slice Al0 l0.length cl0), (59, .int .i64 y12)]) (by kernel_rfl) (by decide) ?_
                  by_cases hb29 : 0 ≤ y12 ∧ y12 < (l0.length : Int)
                  case neg => rw [if_neg hb29] at h; cases h
                  rw [if_pos hb29] at h
                  refine WL.tell (op := .indexAddr 22 (.tmp 58) (.tmp 59)) (ty := 0) (d := some 60) (g := some (2, false)) (by kernel_rfl) (by kernel_rfl) (by kernel_rfl) (Tells.indexAddr (A := Al0) (n := l0.length) (c := cl0) (k := .i64) (j := y12) (by kernel_rfl) (by kernel_rfl) (Hl0.isSome hb29.1 hb29.2) hb29.1 hb29.2 sl22) ?_
                  refine WL.tellE (op := .load 32 (.tmp 60)) (ty := 32) (d := some 61) (g := some (2, false)) (by kernel_rfl) (by kernel_rfl) (by kernel_rfl) (Hl0.load (agg := false) hb29.1 hb29.2 [] ag32 (fun _ => rfl) (by kernel_rfl)) ?_
                  rintro _ ⟨Ae30, ce30, rfl, He30⟩
                  refine WL.rest 9 [0, 1, 2, 7, 8, 9, 65] (L' := [(0, .slice Al0 l0.length cl0), (1, .int .i64 (IntKind.i64.wrap (1 + t7))), (2, .slice Al2 l2.length cl2), (7, .slice Ay11 y11.length cy11), (8, .int .i64 y12), (9, .slice AR25 t23.1.length cR25), (65, .bool ((t23.1.length : Int) != (IntKind.i64.wrap (((l0.getD y12.toNat []).length : Int) + 12))))]) (by kernel_rfl) ?_
                  refine QP.pick [0, 1, 2, 7, 8, 9, 65] ?_
                  exact QP.meet ⟨_, Option.some.inj h, rfl, rfl, rfl⟩
              · rintro _ _ _ ⟨s26, rfl, rfl, rfl, rfl⟩
                clear h
                replace h := hk27
                refine WP.cond (b := s26) (by kernel_rfl) (fun hc => ?_) (fun hc => ?_)
                · replace hc := hc
                  rw [if_pos hc] at h
                  have hc31 := hc
                  clear hc
                  refine WP.seqP [6] (L' := [(6, .bool false)]) (by kernel_rfl) ?_
                  refine WP.ret ?_
                  refine QP.thenR ?_
                  refine QP.blockR ?_
                  refine QP.thenR ?_
                  refine QP.thenR ?_
                  refine QP.blockR ?_
                  refine QP.thenR ?_
                  refine QP.thenR ?_
                  obtain rfl := Option.some.inj h
                  obtain rfl := Option.some.inj (show some _ = some _ from hk10)
                  refine QP.dropAt 1 ?_
                  refine QP.dropAt 0 ?_
                  exact QP.returned [6] [.bool false] _ (by kernel_rfl) (by kernel_rfl) (by kernel_rfl) (fun W hI => ⟨_, _, _, rfl, ⟨rfl, rfl, rfl⟩, hI⟩)
                · replace hc := (Bool.eq_false_iff.1 hc)
                  rw [if_neg hc] at h
                  have hc31 := hc
                  clear hc
                  refine WP.skip ?_
                  refine QP.next ?_
                  refine WP.pick [0, 1, 2, 7, 8, 9] ?_
                  refine WP.region ?_
                  refine WL.pure 0 2 [0, 1, 2, 7, 8, 66, 67] (L' := [(0, .slice Al0 l0.length cl0), (1, .int .i64 (IntKind.i64.wrap (1 + t7))), (2, .slice Al2 l2.length cl2), (7, .slice Ay11 y11.length cy11), (8, .int .i64 y12), (66, .slice Ay11 y11.length cy11), (67, .slice AR25 t23.1.length cR25)]) (by kernel_rfl) (by decide) ?_
                  by_cases hb32 : y11.length + t23.1.length ≤ 1073741824
                  case neg => rw [if_neg hb32] at h; cases h
                  rw [if_pos hb32] at h
                  refine WL.op (op := .call { callee := (.builtin .append), args := #[(.tmp 66), (.tmp 67)], argTypes := #[32, 32] }) (ty := 32) (d := some 68) (g := none) (by kernel_rfl) (by kernel_rfl) (by kernel_rfl) (Ow.append (ys := t23.1) (v := .slice AR25 t23.1.length cR25) Hy11 (i := 1) rfl (by kernel_rfl) (by kernel_rfl) (HR25.src (i := 0) rfl) sl32 ze5 nt32 (by decide) hb32) ?_
                  rintro _ _ _ ⟨rfl, AN33, cN33, CN33, rfl, HN33, rfl⟩
                  refine WL.rest 3 [0, 1, 2, 7, 8] (L' := [(0, .slice Al0 l0.length cl0), (1, .int .i64 (IntKind.i64.wrap (1 + t7))), (2, .slice Al2 l2.length cl2), (7, .slice AN33 (y11 ++ t23.1).length cN33), (8, .int .i64 y12)]) (by kernel_rfl) ?_
                  refine QP.blockN ?_
                  refine QP.next ?_
                  refine WP.pick [0, 1, 2, 7, 8] ?_
                  refine WP.regionP [0, 1, 2, 7, 8] (L' := [(0, .slice Al0 l0.length cl0), (1, .int .i64 (IntKind.i64.wrap (1 + t7))), (2, .slice Al2 l2.length cl2), (7, .slice AN33 (y11 ++ t23.1).length cN33), (8, .int .i64 (IntKind.i64.wrap (y12 + 1)))]) (by kernel_rfl) ?_
                  refine QP.dropAt 0 ?_
                  refine QP.pick [0, 1, 2, 7, 8] ?_
                  exact QP.meet ⟨k14, Nat.lt_succ_self _, (y11 ++ t23.1), (IntKind.i64.wrap (y12 + 1)), h, AN33, cN33, CN33, rfl, rfl, rfl, HN33⟩
          · replace hc := of_decide_eq_false hc
            rw [if_neg hc] at h
            have hc15 := hc
            clear hc
            refine WP.exit ?_
            refine QP.thenE ?_
            refine QP.thenE ?_
            refine QP.blockE ?_
            refine QP.pick [0, 2, 7] ?_
            exact QP.meet ⟨_, Option.some.inj h, Ay11, cy11, Cy11, rfl, rfl, rfl, Hy11⟩
      · rintro _ _ _ ⟨s9, rfl, As9, cs9, Cs9, rfl, rfl, rfl, Hs9⟩
        clear h
        replace h := hk10
        refine QP.next ?_
        refine WP.pick [0, 2, 7] ?_
        refine WP.seqR ?_
        refine WL.pure 0 1 [0, 2, 7, 70] (L' := [(0, .slice Al0 l0.length cl0), (2, .slice Al2 l2.length cl2), (7, .slice As9 s9.length cs9), (70, .slice As9 s9.length cs9)]) (by kernel_rfl) (by decide) ?_
        rw [Option.bind_eq_some_iff] at h
        obtain ⟨t34, ht35, h⟩ := h
        refine WL.op (op := .call { callee := (.value (.func 26)), args := #[(.tmp 70)], argTypes := #[32] }) (ty := 47) (d := some 71) (g := none) (by kernel_rfl) (by kernel_rfl) (by kernel_rfl) (Does.call (Φ := fun v' G' Γ' => v' = .tuple #[.int .i64 t34.1, .int .i64 t34.2] ∧ G = G' ∧ Cs9 :: Γ = Γ') (f := 26) (args := [.slice As9 s9.length cs9]) (by kernel_rfl) (fun W hI => Calls.lend (i := 0) rfl (Ow.nodup Hs9) hI (fun _ e l36 hI => by subst e; exact (frame_Count_calls k s9 As9 cs9 (Hs9.rd l36) t34 ht35 hI)))) ?_
        rintro _ _ _ ⟨rfl, rfl, rfl⟩
        refine WL.restQ 2 [0, 2, 7, 11, 12] (L' := [(0, .slice Al0 l0.length cl0), (2, .slice Al2 l2.length cl2), (7, .slice As9 s9.length cs9), (11, .int .i64 t34.1), (12, .int .i64 t34.2)]) (by kernel_rfl) ?_
        refine WP.seq ?_
        rw [Option.bind_eq_some_iff] at h
        obtain ⟨os37, h, hk38⟩ := h
        refine WP.cut (fun L' G' Γ' => ∃ s37 : Bool, s37 = os37 ∧ L' = [(2, .slice Al2 l2.length cl2), (7, .slice As9 s9.length cs9), (11, .int .i64 t34.1), (12, .int .i64 t34.2), (83, .bool s37)] ∧ G = G' ∧ Cs9 :: Γ = Γ') ?_ ?_
        · clear hk38
          refine WP.region ?_
          refine WL.pure 0 5 [2, 7, 11, 12, 78] (L' := [(2, .slice Al2 l2.length cl2), (7, .slice As9 s9.length cs9), (11, .int .i64 t34.1), (12, .int .i64 t34.2), (78, .bool (t34.1 != (l0.length : Int)))]) (by kernel_rfl) (by decide) ?_
          refine WL.split 78 (b := (t34.1 != (l0.length : Int))) (by kernel_rfl) (fun hc => ?_) (fun hc => ?_)
          · replace hc := (bne_iff_ne.1 hc)
            rw [if_pos hc] at h
            have hc39 := hc
            clear hc
            refine WL.rest 5 [2, 7, 11, 12, 83] (L' := [(2, .slice Al2 l2.length cl2), (7, .slice As9 s9.length cs9), (11, .int .i64 t34.1), (12, .int .i64 t34.2), (83, .bool true)]) (by kernel_rfl) ?_
            refine QP.pick [2, 7, 11, 12, 83] ?_
            exact QP.meet ⟨_, Option.some.inj h, rfl, rfl, rfl⟩
          · replace hc := (not_not_intro (bne_eq_false_iff_eq.1 hc))
            rw [if_neg hc] at h
            have hc39 := hc
            clear hc
            refine WL.rest 5 [2, 7, 11, 12, 83] (L' := [(2, .slice Al2 l2.length cl2), (7, .slice As9 s9.length cs9), (11, .int .i64 t34.1), (12, .int .i64 t34.2), (83, .bool (t34.2 != (s9.length : Int)))]) (by kernel_rfl) ?_
            refine QP.pick [2, 7, 11, 12, 83] ?_
            exact QP.meet ⟨_, Option.some.inj h, rfl, rfl, rfl⟩
        · rintro _ _ _ ⟨s37, rfl, rfl, rfl, rfl⟩
          clear h
          replace h := hk38
          refine WP.cond (b := s37) (by kernel_rfl) (fun hc => ?_) (fun hc => ?_)
          · replace hc := hc
            rw [if_pos hc] at h
            have hc40 := hc
            clear hc
            refine WP.seqP [6] (L' := [(6, .bool false)]) (by kernel_rfl) ?_
            refine WP.ret ?_
            refine QP.thenR ?_
            obtain rfl := Option.some.inj h
            refine QP.dropAt 0 ?_
            exact QP.returned [6] [.bool false] _ (by kernel_rfl) (by kernel_rfl) (by kernel_rfl) (fun W hI => ⟨_, _, _, rfl, ⟨rfl, rfl, rfl⟩, hI⟩)
          · replace hc := (Bool.eq_false_iff.1 hc)
            rw [if_neg hc] at h
            have hc40 := hc
            clear hc
            refine WP.skip ?_
            refine QP.next ?_
            refine WP.pick [2, 7, 11, 12] ?_
            refine WP.seqR ?_
            refine WL.pure 0 1 [2, 7, 11, 12, 85] (L' := [(2, .slice Al2 l2.length cl2), (7, .slice As9 s9.length cs9), (11, .int .i64 t34.1), (12, .int .i64 t34.2), (85, .slice Al2 l2.length cl2)]) (by kernel_rfl) (by decide) ?_
            rw [Option.bind_eq_some_iff] at h
            obtain ⟨t41, ht42, h⟩ := h
            refine WL.op (op := .call { callee := (.value (.func 24)), args := #[(.tmp 85), (.const (.int .i64 0))], argTypes := #[32, 3] }) (ty := 45) (d := some 86) (g := none) (by kernel_rfl) (by kernel_rfl) (by kernel_rfl) (Does.call (f := 24) (args := [.slice Al2 l2.length cl2, .int .i64 0]) (by kernel_rfl) (fun W hI => (frame_Next_calls k l2 0 Al2 cl2 Hl2 t41 ht42 hI))) ?_
            rintro _ _ _ ⟨AR43, cR43, CR43, rfl, HR43, rfl, rfl⟩
            refine WL.restQ 2 [2, 7, 11, 12, 16] (L' := [(2, .slice Al2 l2.length cl2), (7, .slice As9 s9.length cs9), (11, .int .i64 t34.1), (12, .int .i64 t34.2), (16, .bool t41.2.2.2)]) (by kernel_rfl) ?_
            refine WP.seqR ?_
            refine WL.pure 0 1 [2, 11, 12, 16, 92] (L' := [(2, .slice Al2 l2.length cl2), (11, .int .i64 t34.1), (12, .int .i64 t34.2), (16, .bool t41.2.2.2), (92, .slice As9 s9.length cs9)]) (by kernel_rfl) (by decide) ?_
            refine WL.addNil ?_
            by_cases hb44 : ([] : List Int).length + s9.length ≤ 1073741824
            case neg => rw [if_neg hb44] at h; cases h
            rw [if_pos hb44] at h
            refine WL.op (op := .call { callee := (.builtin .append), args := #[(.const (.slice none 0 0)), (.tmp 92)], argTypes := #[32, 32] }) (ty := 32) (d := some 93) (g := none) (by kernel_rfl) (by kernel_rfl) (by kernel_rfl) (Ow.append (ys := s9) (v := .slice As9 s9.length cs9) (Ow.nil (kInt .u8) G) (i := 0) rfl (by kernel_rfl) (by kernel_rfl) (Hs9.src (i := 2) rfl) sl32 ze5 nt32 (by decide) hb44) ?_
            rintro _ _ _ ⟨rfl, AN45, cN45, CN45, rfl, HN45, rfl⟩
            refine WL.pure 2 3 [11, 12, 16, 93, 94] (L' := [(11, .int .i64 t34.1), (12, .int .i64 t34.2), (16, .bool t41.2.2.2), (93, .slice AN45 (([] : List Int) ++ s9).length cN45), (94, .slice Al2 l2.length cl2)]) (by kernel_rfl) (by decide) ?_
            by_cases hb46 : (([] : List Int) ++ s9).length + l2.length ≤ 1073741824
            case neg => rw [if_neg hb46] at h; cases h
            rw [if_pos hb46] at h
            refine WL.op (op := .call { callee := (.builtin .append), args := #[(.tmp 93), (.tmp 94)], argTypes := #[32, 32] }) (ty := 32) (d := some 95) (g := none) (by kernel_rfl) (by kernel_rfl) (by kernel_rfl) (Ow.append (ys := l2) (v := .slice Al2 l2.length cl2) HN45 (i := 0) rfl (by kernel_rfl) (by kernel_rfl) Hl2.src sl32 ze5 nt32 (by decide) hb46) ?_
            rintro _ _ _ ⟨rfl, AN47, cN47, CN47, rfl, HN47, rfl⟩
            rw [Option.bind_eq_some_iff] at h
            obtain ⟨t48, ht49, h⟩ := h
            refine WL.op (op := .call { callee := (.value (.func 26)), args := #[(.tmp 95)], argTypes := #[32] }) (ty := 47) (d := some 96) (g := none) (by kernel_rfl) (by kernel_rfl) (by kernel_rfl) (Does.call (Φ := fun v' G' Γ' => v' = .tuple #[.int .i64 t48.1, .int .i64 t48.2] ∧ G = G' ∧ CN47 :: CR43 :: Cs9 :: Γ = Γ') (f := 26) (args := [.slice AN47 ((([] : List Int) ++ s9) ++ l2).length cN47]) (by kernel_rfl) (fun W hI => Calls.lend (i := 0) rfl (Ow.nodup HN47) hI (fun _ e l50 hI => by subst e; exact (frame_Count_calls k ((([] : List Int) ++ s9) ++ l2) AN47 cN47 (HN47.rd l50) t48 ht49 hI)))) ?_
            rintro _ _ _ ⟨rfl, rfl, rfl⟩
            refine WL.restQ 5 [11, 12, 16, 17, 18] (L' := [(11, .int .i64 t34.1), (12, .int .i64 t34.2), (16, .bool t41.2.2.2), (17, .int .i64 t48.1), (18, .int .i64 t48.2)]) (by kernel_rfl) ?_
            rw [Option.bind_eq_some_iff] at h
            obtain ⟨os51, h, hk52⟩ := h
            refine WP.cut (fun L' G' Γ' => ∃ s51 : Bool, s51 = os51 ∧ L' = [(6, .bool s51)] ∧ G = G' ∧ CN47 :: CR43 :: Cs9 :: Γ = Γ') ?_ ?_
            · clear hk52
              refine WP.region ?_
              refine WL.pure 0 2 [11, 12, 17, 18, 100] (L' := [(11, .int .i64 t34.1), (12, .int .i64 t34.2), (17, .int .i64 t48.1), (18, .int .i64 t48.2), (100, .bool t41.2.2.2)]) (by kernel_rfl) (by decide) ?_
              refine WL.split 100 (b := t41.2.2.2) (by kernel_rfl) (fun hc => ?_) (fun hc => ?_)
              · replace hc := hc
                rw [if_pos hc] at h
                have hc53 := hc
                clear hc
                refine WL.pure 2 12 [110] (L' := [(110, .bool true)]) (by kernel_rfl) (by decide) ?_
                rw [Option.bind_eq_some_iff] at h
                obtain ⟨t54, ht55, h⟩ := h
                refine WL.op (op := .call { callee := (.value (.func 18)), args := #[], argTypes := #[] }) (ty := 4) (d := some 111) (g := some (11, true)) (by kernel_rfl) (by kernel_rfl) (by kernel_rfl) (Does.call (f := 18) (args := []) (by kernel_rfl) (fun W hI => (grapevinelaw6_awake_calls k   t54 ht55 hI))) ?_
                rintro _ _ _ ⟨rfl, rfl, rfl⟩
                refine WL.rest 13 [6] (L' := [(6, .bool t54)]) (by kernel_rfl) ?_
                refine QP.pick [6] ?_
                exact QP.meet ⟨_, Option.some.inj h, rfl, rfl, rfl⟩
              · replace hc := (Bool.eq_false_iff.1 hc)
                rw [if_neg hc] at h
                have hc53 := hc
                clear hc
                refine WL.pure 2 6 [12, 18, 100, 104] (L' := [(12, .int .i64 t34.2), (18, .int .i64 t48.2), (100, .bool false), (104, .bool (t48.1 == t34.1))]) (by kernel_rfl) (by decide) ?_
                refine WL.split 104 (b := (t48.1 == t34.1)) (by kernel_rfl) (fun hc => ?_) (fun hc => ?_)
                · replace hc := eq_of_beq hc
                  rw [if_pos hc] at h
                  have hc56 := hc
                  clear hc
                  refine WL.pure 6 12 [110] (L' := [(110, .bool (t48.2 == t34.2))]) (by kernel_rfl) (by decide) ?_
                  refine WL.split 110 (b := (t48.2 == t34.2)) (by kernel_rfl) (fun hc => ?_) (fun hc => ?_)
                  · replace hc := eq_of_beq hc
                    rw [if_pos hc] at h
                    have hc57 := hc
                    clear hc
                    rw [Option.bind_eq_some_iff] at h
                    obtain ⟨t58, ht59, h⟩ := h
                    refine WL.op (op := .call { callee := (.value (.func 18)), args := #[], argTypes := #[] }) (ty := 4) (d := some 111) (g := some (11, true)) (by kernel_rfl) (by kernel_rfl) (by kernel_rfl) (Does.call (f := 18) (args := []) (by kernel_rfl) (fun W hI => (grapevinelaw6_awake_calls k   t58 ht59 hI))) ?_
                    rintro _ _ _ ⟨rfl, rfl, rfl⟩
                    refine WL.rest 13 [6] (L' := [(6, .bool t58)]) (by kernel_rfl) ?_
                    refine QP.pick [6] ?_
                    exact QP.meet ⟨_, Option.some.inj h, rfl, rfl, rfl⟩
                  · replace hc := ne_of_beq_false hc
                    rw [if_neg hc] at h
                    have hc57 := hc
                    clear hc
                    refine WL.rest 12 [6] (L' := [(6, .bool false)]) (by kernel_rfl) ?_
                    refine QP.pick [6] ?_
                    exact QP.meet ⟨_, Option.some.inj h, rfl, rfl, rfl⟩
                · replace hc := ne_of_beq_false hc
                  rw [if_neg hc] at h
                  have hc56 := hc
                  clear hc
                  refine WL.rest 6 [6] (L' := [(6, .bool false)]) (by kernel_rfl) ?_
                  refine QP.pick [6] ?_
                  exact QP.meet ⟨_, Option.some.inj h, rfl, rfl, rfl⟩
            · rintro _ _ _ ⟨s51, rfl, rfl, rfl, rfl⟩
              clear h
              replace h := hk52
              refine WP.ret ?_
              obtain rfl := Option.some.inj h
              refine QP.dropAt 2 ?_
              refine QP.dropAt 1 ?_
              refine QP.dropAt 0 ?_
              exact QP.returned [6] [.bool s51] _ (by kernel_rfl) (by kernel_rfl) (by kernel_rfl) (fun W hI => ⟨_, _, _, rfl, ⟨rfl, rfl, rfl⟩, hI⟩)
/-- The plain law. -/
def FrameRows_Pure : Prop := ∀ (l0 : List (List Int)) (a1 : Int) (l2 : List Int), (l0.length ≤ maxLen ∧ ∀ z0 ∈ l0, (z0.length ≤ maxLen ∧ ∀ zz0 ∈ z0, (Lit.int .u8 zz0).wf = true)) → (Lit.int .i64 a1).wf = true → (l2.length ≤ maxLen ∧ ∀ z0 ∈ l2, (Lit.int .u8 z0).wf = true) → ∃ k, grapevinelaw6_FrameRows k l0 a1 l2 = some true
end Go.Proofs.Ytanogihdhnhpaaa.Gf
