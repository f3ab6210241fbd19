/- Walks of Go functions: what each tells, as a plain Lean function, and that the Go code comes to it. Written by gg.py of this repo. -/
import Derived.Test.YtanogihdhnhpaaaT
import Derived.Test.YtanogihdhnhpaaaF0
import Derived.Test.YtanogihdhnhpaaaF1
namespace Go.Proofs.Ytanogihdhnhpaaa.Gf
open Go Go.Gg
set_option maxRecDepth 100000
set_option linter.unusedVariables false
set_option linter.unusedSimpArgs false

/-! ### grapevine/grapevinelaw6.FrameUnlike: function 10 -/
def grapevinelaw6_FrameUnlike (k : Nat) (a0 : Int) (l1 : List Int) (a2 : Int) (l3 : List Int) : Option Bool := ((if (l1.length : Int) > 300 then some true else some (decide ((l3.length : Int) > 300))).bind fun s1 => (if s1 = true then ((grapevinelaw6_awake k ).bind fun t5 => some t5) else ((grapevinelaw0_Low a0 255).bind fun t7 => ((grapevinelaw0_Low a2 255).bind fun t9 => ((frame_Lay k (IntKind.i64.wrap (1 + t7)) l1).bind fun t11 => ((frame_Lay k (IntKind.i64.wrap (1 + t9)) l3).bind fun t14 => ((if ¬ t11.2 = 0 then some true else (if ¬ t14.2 = 0 then some true else (if ¬ (t11.1.length : Int) = (IntKind.i64.wrap ((l1.length : Int) + 12)) then some true else (if ¬ (t14.1.length : Int) = (IntKind.i64.wrap ((l3.length : Int) + 12)) then some true else ((grapevinelaw0_SameBytes k t11.1 t14.1).bind fun t23 => (if (IntKind.i64.wrap (1 + t7)) = (IntKind.i64.wrap (1 + t9)) then ((grapevinelaw0_SameBytes k l1 l3).bind fun t28 => some (!(t23 == t28))) else some (!(t23 == false)))))))).bind fun s17 => (if s17 = true then some false else (if ([] : List Int).length + t11.1.length ≤ 1073741824 then (if (([] : List Int) ++ t11.1).length + t14.1.length ≤ 1073741824 then ((some ((([] : List Int) ++ t11.1) ++ t14.1)).bind fun v35 => ((frame_Next k v35 0).bind fun t38 => ((frame_Next k v35 (t11.1.length : Int)).bind fun t42 => ((frame_Next k v35 1).bind fun t46 => ((if t38.2.2.2 = true then (if t42.2.2.2 = true then (if t38.1 = (IntKind.i64.wrap (1 + t7)) then (if t42.1 = (IntKind.i64.wrap (1 + t9)) then ((grapevinelaw0_SameBytes k t38.2.1 l1).bind fun t56 => (if t56 = true then ((grapevinelaw0_SameBytes k t42.2.1 l3).bind fun t60 => (if t60 = true then (if t38.2.2.1 = (t11.1.length : Int) then (if t42.2.2.1 = (v35.length : Int) then (if ¬ t46.2.2.1 = (t11.1.length : Int) then ((grapevinelaw6_awake k ).bind fun t67 => some t67) else some false) else some false) else some false) else some false)) else some false)) else some false) else some false) else some false) else some false).bind fun s50 => some s50))))) else none) else none)))))))))
set_option maxHeartbeats 4000000 in
theorem grapevinelaw6_FrameUnlike_calls {B : World} {G : GMap} {Γ : List Chunk} {W : World} (k : Nat) (a0 : Int) (l1 : List Int) (a2 : Int) (l3 : List Int) (Al1 : Option Addr) (cl1 : Nat) (Hl1 : Rd (kInt .u8) G Al1 cl1 l1) (Al3 : Option Addr) (cl3 : Nat) (Hl3 : Rd (kInt .u8) G Al3 cl3 l3) (r : Bool) (h : grapevinelaw6_FrameUnlike k a0 l1 a2 l3 = some r) (hI : Inv B G (Γ) W) :
    Calls Try.prog 10 [.int .i64 a0, .slice Al1 l1.length cl1, .int .i64 a2, .slice Al3 l3.length cl3].toArray W (Ret B (fun v G' Γ' => v = .bool r ∧ G = G' ∧ Γ = Γ')) := by
  refine calls_WP (Γ := Γ) (G := G) (B := B) Try.func10 rfl (by kernel_rfl) ?_ hI
  clear hI
  unfold grapevinelaw6_FrameUnlike at h
  refine WP.seqP [0, 1, 2, 3] (L' := [(0, .int .i64 a0), (1, .slice Al1 l1.length cl1), (2, .int .i64 a2), (3, .slice Al3 l3.length cl3)]) (by kernel_rfl) ?_
  refine WP.seq ?_
  rw [Option.bind_eq_some_iff] at h
  obtain ⟨os1, h, hk2⟩ := h
  refine WP.cut (fun L' G' Γ' => ∃ s1 : Bool, s1 = os1 ∧ L' = [(0, .int .i64 a0), (1, .slice Al1 l1.length cl1), (2, .int .i64 a2), (3, .slice Al3 l3.length cl3), (33, .bool s1)] ∧ G = G' ∧ Γ = Γ') ?_ ?_
  · clear hk2
    refine WP.region ?_
    refine WL.pure 0 4 [0, 1, 2, 3, 29] (L' := [(0, .int .i64 a0), (1, .slice Al1 l1.length cl1), (2, .int .i64 a2), (3, .slice Al3 l3.length cl3), (29, .bool (decide ((l1.length : Int) > 300)))]) (by kernel_rfl) (by decide) ?_
    refine WL.split 29 (b := decide ((l1.length : Int) > 300)) (by kernel_rfl) (fun hc => ?_) (fun hc => ?_)
    · replace hc := of_decide_eq_true hc
      rw [if_pos hc] at h
      have hc3 := hc
      clear hc
      refine WL.rest 4 [0, 1, 2, 3, 33] (L' := [(0, .int .i64 a0), (1, .slice Al1 l1.length cl1), (2, .int .i64 a2), (3, .slice Al3 l3.length cl3), (33, .bool true)]) (by kernel_rfl) ?_
      refine QP.pick [0, 1, 2, 3, 33] ?_
      exact QP.meet ⟨_, Option.some.inj h, rfl, rfl, rfl⟩
    · replace hc := of_decide_eq_false hc
      rw [if_neg hc] at h
      have hc3 := hc
      clear hc
      refine WL.rest 4 [0, 1, 2, 3, 33] (L' := [(0, .int .i64 a0), (1, .slice Al1 l1.length cl1), (2, .int .i64 a2), (3, .slice Al3 l3.length cl3), (33, .bool (decide ((l3.length : Int) > 300)))]) (by kernel_rfl) ?_
      refine QP.pick [0, 1, 2, 3, 33] ?_
      exact QP.meet ⟨_, Option.some.inj h, rfl, rfl, rfl⟩
  · rintro _ _ _ ⟨s1, rfl, rfl, rfl, rfl⟩
    clear h
    replace h := hk2
    refine WP.cond (b := s1) (by kernel_rfl) (fun hc => ?_) (fun hc => ?_)
    · replace hc := hc
      rw [if_pos hc] at h
      have hc4 := hc
      clear hc
      refine WP.seqR ?_
      rw [Option.bind_eq_some_iff] at h
      obtain ⟨t5, ht6, h⟩ := h
      refine WL.op (op := .call { callee := (.value (.func 18)), args := #[], argTypes := #[] }) (ty := 4) (d := some 34) (g := none) (by kernel_rfl) (by kernel_rfl) (by kernel_rfl) (Does.call (f := 18) (args := []) (by kernel_rfl) (fun W hI => (grapevinelaw6_awake_calls k   t5 ht6 hI))) ?_
      rintro _ _ _ ⟨rfl, rfl, rfl⟩
      refine WL.restQ 1 [8] (L' := [(8, .bool t5)]) (by kernel_rfl) ?_
      refine WP.ret ?_
      refine QP.thenR ?_
      obtain rfl := Option.some.inj h
      exact QP.returned [8] [.bool t5] _ (by kernel_rfl) (by kernel_rfl) (by kernel_rfl) (fun W hI => ⟨_, _, _, rfl, ⟨rfl, rfl, rfl⟩, hI⟩)
    · replace hc := (Bool.eq_false_iff.1 hc)
      rw [if_neg hc] at h
      have hc4 := hc
      clear hc
      refine WP.skip ?_
      refine QP.next ?_
      refine WP.pick [0, 1, 2, 3] ?_
      refine WP.seqR ?_
      refine WL.pure 0 1 [0, 1, 2, 3, 35] (L' := [(0, .int .i64 a0), (1, .slice Al1 l1.length cl1), (2, .int .i64 a2), (3, .slice Al3 l3.length cl3), (35, .int .i64 a0)]) (by kernel_rfl) (by decide) ?_
      rw [Option.bind_eq_some_iff] at h
      obtain ⟨t7, ht8, h⟩ := h
      refine WL.op (op := .call { callee := (.value (.func 17)), args := #[(.tmp 35), (.const (.int .i64 255))], argTypes := #[3, 3] }) (ty := 3) (d := some 36) (g := none) (by kernel_rfl) (by kernel_rfl) (by kernel_rfl) (Does.call (f := 17) (args := [.int .i64 a0, .int .i64 255]) (by kernel_rfl) (fun W hI => (grapevinelaw0_Low_calls a0 255  t7 ht8 hI))) ?_
      rintro _ _ _ ⟨rfl, rfl, rfl⟩
      refine WL.pure 2 4 [0, 1, 2, 3, 37, 38] (L' := [(0, .int .i64 a0), (1, .slice Al1 l1.length cl1), (2, .int .i64 a2), (3, .slice Al3 l3.length cl3), (37, .int .i64 (IntKind.i64.wrap (1 + t7))), (38, .int .i64 a2)]) (by kernel_rfl) (by decide) ?_
      rw [Option.bind_eq_some_iff] at h
      obtain ⟨t9, ht10, h⟩ := h
      refine WL.op (op := .call { callee := (.value (.func 17)), args := #[(.tmp 38), (.const (.int .i64 255))], argTypes := #[3, 3] }) (ty := 3) (d := some 39) (g := none) (by kernel_rfl) (by kernel_rfl) (by kernel_rfl) (Does.call (f := 17) (args := [.int .i64 a2, .int .i64 255]) (by kernel_rfl) (fun W hI => (grapevinelaw0_Low_calls a2 255  t9 ht10 hI))) ?_
      rintro _ _ _ ⟨rfl, rfl, rfl⟩
      refine WL.restQ 5 [0, 1, 2, 3] (L' := [(0, .int .i64 (IntKind.i64.wrap (1 + t7))), (1, .slice Al1 l1.length cl1), (2, .int .i64 (IntKind.i64.wrap (1 + t9))), (3, .slice Al3 l3.length cl3)]) (by kernel_rfl) ?_
      refine WP.seqR ?_
      refine WL.pure 0 2 [0, 1, 2, 3, 42, 43] (L' := [(0, .int .i64 (IntKind.i64.wrap (1 + t7))), (1, .slice Al1 l1.length cl1), (2, .int .i64 (IntKind.i64.wrap (1 + t9))), (3, .slice Al3 l3.length cl3), (42, .int .i64 (IntKind.i64.wrap (1 + t7))), (43, .slice Al1 l1.length cl1)]) (by kernel_rfl) (by decide) ?_
      rw [Option.bind_eq_some_iff] at h
      obtain ⟨t11, ht12, h⟩ := h
      refine WL.op (op := .call { callee := (.value (.func 19)), args := #[(.tmp 42), (.tmp 43)], argTypes := #[3, 32] }) (ty := 37) (d := some 44) (g := none) (by kernel_rfl) (by kernel_rfl) (by kernel_rfl) (Does.call (f := 19) (args := [.int .i64 (IntKind.i64.wrap (1 + t7)), .slice Al1 l1.length cl1]) (by kernel_rfl) (fun W hI => (frame_Lay_calls k (IntKind.i64.wrap (1 + t7)) l1 Al1 cl1 Hl1 t11 ht12 hI))) ?_
      rintro _ _ _ ⟨AR13, cR13, CR13, rfl, HR13, rfl, rfl⟩
      refine WL.restQ 3 [0, 1, 2, 3, 9, 10] (L' := [(0, .int .i64 (IntKind.i64.wrap (1 + t7))), (1, .slice Al1 l1.length cl1), (2, .int .i64 (IntKind.i64.wrap (1 + t9))), (3, .slice Al3 l3.length cl3), (9, .slice AR13 t11.1.length cR13), (10, .int .i64 t11.2)]) (by kernel_rfl) ?_
      refine WP.seqR ?_
      refine WL.pure 0 2 [0, 1, 2, 3, 9, 10, 48, 49] (L' := [(0, .int .i64 (IntKind.i64.wrap (1 + t7))), (1, .slice Al1 l1.length cl1), (2, .int .i64 (IntKind.i64.wrap (1 + t9))), (3, .slice Al3 l3.length cl3), (9, .slice AR13 t11.1.length cR13), (10, .int .i64 t11.2), (48, .int .i64 (IntKind.i64.wrap (1 + t9))), (49, .slice Al3 l3.length cl3)]) (by kernel_rfl) (by decide) ?_
      rw [Option.bind_eq_some_iff] at h
      obtain ⟨t14, ht15, h⟩ := h
      refine WL.op (op := .call { callee := (.value (.func 19)), args := #[(.tmp 48), (.tmp 49)], argTypes := #[3, 32] }) (ty := 37) (d := some 50) (g := none) (by kernel_rfl) (by kernel_rfl) (by kernel_rfl) (Does.call (f := 19) (args := [.int .i64 (IntKind.i64.wrap (1 + t9)), .slice Al3 l3.length cl3]) (by kernel_rfl) (fun W hI => (frame_Lay_calls k (IntKind.i64.wrap (1 + t9)) l3 Al3 cl3 Hl3 t14 ht15 hI))) ?_
      rintro _ _ _ ⟨AR16, cR16, CR16, rfl, HR16, rfl, rfl⟩
      refine WL.restQ 3 [0, 1, 2, 3, 9, 10, 11, 12] (L' := [(0, .int .i64 (IntKind.i64.wrap (1 + t7))), (1, .slice Al1 l1.length cl1), (2, .int .i64 (IntKind.i64.wrap (1 + t9))), (3, .slice Al3 l3.length cl3), (9, .slice AR13 t11.1.length cR13), (10, .int .i64 t11.2), (11, .slice AR16 t14.1.length cR16), (12, .int .i64 t14.2)]) (by kernel_rfl) ?_
      refine WP.seq ?_
      rw [Option.bind_eq_some_iff] at h
      obtain ⟨os17, h, hk18⟩ := h
      refine WP.cut (fun L' G' Γ' => ∃ s17 : Bool, s17 = os17 ∧ L' = [(0, .int .i64 (IntKind.i64.wrap (1 + t7))), (1, .slice Al1 l1.length cl1), (2, .int .i64 (IntKind.i64.wrap (1 + t9))), (3, .slice Al3 l3.length cl3), (9, .slice AR13 t11.1.length cR13), (11, .slice AR16 t14.1.length cR16), (88, .bool s17)] ∧ G = G' ∧ CR16 :: CR13 :: Γ = Γ') ?_ ?_
      · clear hk18
        refine WP.region ?_
        refine WL.pure 0 3 [0, 1, 2, 3, 9, 11, 12, 55] (L' := [(0, .int .i64 (IntKind.i64.wrap (1 + t7))), (1, .slice Al1 l1.length cl1), (2, .int .i64 (IntKind.i64.wrap (1 + t9))), (3, .slice Al3 l3.length cl3), (9, .slice AR13 t11.1.length cR13), (11, .slice AR16 t14.1.length cR16), (12, .int .i64 t14.2), (55, .bool (t11.2 != 0))]) (by kernel_rfl) (by decide) ?_
        refine WL.split 55 (b := (t11.2 != 0)) (by kernel_rfl) (fun hc => ?_) (fun hc => ?_)
        · replace hc := (bne_iff_ne.1 hc)
          rw [if_pos hc] at h
          have hc19 := hc
          clear hc
          refine WL.rest 3 [0, 1, 2, 3, 9, 11, 88] (L' := [(0, .int .i64 (IntKind.i64.wrap (1 + t7))), (1, .slice Al1 l1.length cl1), (2, .int .i64 (IntKind.i64.wrap (1 + t9))), (3, .slice Al3 l3.length cl3), (9, .slice AR13 t11.1.length cR13), (11, .slice AR16 t14.1.length cR16), (88, .bool true)]) (by kernel_rfl) ?_
          refine QP.pick [0, 1, 2, 3, 9, 11, 88] ?_
          exact QP.meet ⟨_, Option.some.inj h, rfl, rfl, rfl⟩
        · replace hc := (not_not_intro (bne_eq_false_iff_eq.1 hc))
          rw [if_neg hc] at h
          have hc19 := hc
          clear hc
          refine WL.pure 3 7 [0, 1, 2, 3, 9, 11, 59] (L' := [(0, .int .i64 (IntKind.i64.wrap (1 + t7))), (1, .slice Al1 l1.length cl1), (2, .int .i64 (IntKind.i64.wrap (1 + t9))), (3, .slice Al3 l3.length cl3), (9, .slice AR13 t11.1.length cR13), (11, .slice AR16 t14.1.length cR16), (59, .bool (t14.2 != 0))]) (by kernel_rfl) (by decide) ?_
          refine WL.split 59 (b := (t14.2 != 0)) (by kernel_rfl) (fun hc => ?_) (fun hc => ?_)
          · replace hc := (bne_iff_ne.1 hc)
            rw [if_pos hc] at h
            have hc20 := hc
            clear hc
            refine WL.rest 7 [0, 1, 2, 3, 9, 11, 88] (L' := [(0, .int .i64 (IntKind.i64.wrap (1 + t7))), (1, .slice Al1 l1.length cl1), (2, .int .i64 (IntKind.i64.wrap (1 + t9))), (3, .slice Al3 l3.length cl3), (9, .slice AR13 t11.1.length cR13), (11, .slice AR16 t14.1.length cR16), (88, .bool true)]) (by kernel_rfl) ?_
            refine QP.pick [0, 1, 2, 3, 9, 11, 88] ?_
            exact QP.meet ⟨_, Option.some.inj h, rfl, rfl, rfl⟩
          · replace hc := (not_not_intro (bne_eq_false_iff_eq.1 hc))
            rw [if_neg hc] at h
            have hc20 := hc
            clear hc
            refine WL.pure 7 15 [0, 1, 2, 3, 9, 11, 67] (L' := [(0, .int .i64 (IntKind.i64.wrap (1 + t7))), (1, .slice Al1 l1.length cl1), (2, .int .i64 (IntKind.i64.wrap (1 + t9))), (3, .slice Al3 l3.length cl3), (9, .slice AR13 t11.1.length cR13), (11, .slice AR16 t14.1.length cR16), (67, .bool ((t11.1.length : Int) != (IntKind.i64.wrap ((l1.length : Int) + 12))))]) (by kernel_rfl) (by decide) ?_
            refine WL.split 67 (b := ((t11.1.length : Int) != (IntKind.i64.wrap ((l1.length : Int) + 12)))) (by kernel_rfl) (fun hc => ?_) (fun hc => ?_)
            · replace hc := (bne_iff_ne.1 hc)
              rw [if_pos hc] at h
              have hc21 := hc
              clear hc
              refine WL.rest 15 [0, 1, 2, 3, 9, 11, 88] (L' := [(0, .int .i64 (IntKind.i64.wrap (1 + t7))), (1, .slice Al1 l1.length cl1), (2, .int .i64 (IntKind.i64.wrap (1 + t9))), (3, .slice Al3 l3.length cl3), (9, .slice AR13 t11.1.length cR13), (11, .slice AR16 t14.1.length cR16), (88, .bool true)]) (by kernel_rfl) ?_
              refine QP.pick [0, 1, 2, 3, 9, 11, 88] ?_
              exact QP.meet ⟨_, Option.some.inj h, rfl, rfl, rfl⟩
            · replace hc := (not_not_intro (bne_eq_false_iff_eq.1 hc))
              rw [if_neg hc] at h
              have hc21 := hc
              clear hc
              refine WL.pure 15 23 [0, 1, 2, 3, 9, 11, 75] (L' := [(0, .int .i64 (IntKind.i64.wrap (1 + t7))), (1, .slice Al1 l1.length cl1), (2, .int .i64 (IntKind.i64.wrap (1 + t9))), (3, .slice Al3 l3.length cl3), (9, .slice AR13 t11.1.length cR13), (11, .slice AR16 t14.1.length cR16), (75, .bool ((t14.1.length : Int) != (IntKind.i64.wrap ((l3.length : Int) + 12))))]) (by kernel_rfl) (by decide) ?_
              refine WL.split 75 (b := ((t14.1.length : Int) != (IntKind.i64.wrap ((l3.length : Int) + 12)))) (by kernel_rfl) (fun hc => ?_) (fun hc => ?_)
              · replace hc := (bne_iff_ne.1 hc)
                rw [if_pos hc] at h
                have hc22 := hc
                clear hc
                refine WL.rest 23 [0, 1, 2, 3, 9, 11, 88] (L' := [(0, .int .i64 (IntKind.i64.wrap (1 + t7))), (1, .slice Al1 l1.length cl1), (2, .int .i64 (IntKind.i64.wrap (1 + t9))), (3, .slice Al3 l3.length cl3), (9, .slice AR13 t11.1.length cR13), (11, .slice AR16 t14.1.length cR16), (88, .bool true)]) (by kernel_rfl) ?_
                refine QP.pick [0, 1, 2, 3, 9, 11, 88] ?_
                exact QP.meet ⟨_, Option.some.inj h, rfl, rfl, rfl⟩
              · replace hc := (not_not_intro (bne_eq_false_iff_eq.1 hc))
                rw [if_neg hc] at h
                have hc22 := hc
                clear hc
                refine WL.pure 23 25 [0, 1, 2, 3, 9, 11, 75, 76, 77] (L' := [(0, .int .i64 (IntKind.i64.wrap (1 + t7))), (1, .slice Al1 l1.length cl1), (2, .int .i64 (IntKind.i64.wrap (1 + t9))), (3, .slice Al3 l3.length cl3), (9, .slice AR13 t11.1.length cR13), (11, .slice AR16 t14.1.length cR16), (75, .bool false), (76, .slice AR13 t11.1.length cR13), (77, .slice AR16 t14.1.length cR16)]) (by kernel_rfl) (by decide) ?_
                rw [Option.bind_eq_some_iff] at h
                obtain ⟨t23, ht24, h⟩ := h
                refine WL.op (op := .call { callee := (.value (.func 21)), args := #[(.tmp 76), (.tmp 77)], argTypes := #[32, 32] }) (ty := 4) (d := some 78) (g := some (22, false)) (by kernel_rfl) (by kernel_rfl) (by kernel_rfl) (Does.call (Φ := fun v' G' Γ' => v' = .bool t23 ∧ G = G' ∧ CR16 :: CR13 :: Γ = Γ') (f := 21) (args := [.slice AR13 t11.1.length cR13, .slice AR16 t14.1.length cR16]) (by kernel_rfl) (fun W hI => Calls.lend (i := 1) rfl (Ow.nodup HR13) hI (fun _ e l25 hI => by subst e; exact Calls.lend (i := 0) rfl (Ow.nodup (HR16.mono l25)) hI (fun _ e l26 hI => by subst e; exact (grapevinelaw0_SameBytes_calls k t11.1 t14.1 AR13 cR13 ((HR13.rd l25).mono l26) AR16 cR16 ((HR16.mono l25).rd l26) t23 ht24 hI))))) ?_
                rintro _ _ _ ⟨rfl, rfl, rfl⟩
                refine WL.pure 26 30 [0, 1, 2, 3, 9, 11, 75, 78, 82] (L' := [(0, .int .i64 (IntKind.i64.wrap (1 + t7))), (1, .slice Al1 l1.length cl1), (2, .int .i64 (IntKind.i64.wrap (1 + t9))), (3, .slice Al3 l3.length cl3), (9, .slice AR13 t11.1.length cR13), (11, .slice AR16 t14.1.length cR16), (75, .bool false), (78, .bool t23), (82, .bool ((IntKind.i64.wrap (1 + t7)) == (IntKind.i64.wrap (1 + t9))))]) (by kernel_rfl) (by decide) ?_
                refine WL.split 82 (b := ((IntKind.i64.wrap (1 + t7)) == (IntKind.i64.wrap (1 + t9)))) (by kernel_rfl) (fun hc => ?_) (fun hc => ?_)
                · replace hc := eq_of_beq hc
                  rw [if_pos hc] at h
                  have hc27 := hc
                  clear hc
                  refine WL.pure 30 32 [0, 1, 2, 3, 9, 11, 75, 78, 82, 83, 84] (L' := [(0, .int .i64 (IntKind.i64.wrap (1 + t7))), (1, .slice Al1 l1.length cl1), (2, .int .i64 (IntKind.i64.wrap (1 + t9))), (3, .slice Al3 l3.length cl3), (9, .slice AR13 t11.1.length cR13), (11, .slice AR16 t14.1.length cR16), (75, .bool false), (78, .bool t23), (82, .bool true), (83, .slice Al1 l1.length cl1), (84, .slice Al3 l3.length cl3)]) (by kernel_rfl) (by decide) ?_
                  rw [Option.bind_eq_some_iff] at h
                  obtain ⟨t28, ht29, h⟩ := h
                  refine WL.op (op := .call { callee := (.value (.func 21)), args := #[(.tmp 83), (.tmp 84)], argTypes := #[32, 32] }) (ty := 4) (d := some 85) (g := some (29, true)) (by kernel_rfl) (by kernel_rfl) (by kernel_rfl) (Does.call (f := 21) (args := [.slice Al1 l1.length cl1, .slice Al3 l3.length cl3]) (by kernel_rfl) (fun W hI => (grapevinelaw0_SameBytes_calls k l1 l3 Al1 cl1 Hl1 Al3 cl3 Hl3 t28 ht29 hI))) ?_
                  rintro _ _ _ ⟨rfl, rfl, rfl⟩
                  refine WL.rest 33 [0, 1, 2, 3, 9, 11, 88] (L' := [(0, .int .i64 (IntKind.i64.wrap (1 + t7))), (1, .slice Al1 l1.length cl1), (2, .int .i64 (IntKind.i64.wrap (1 + t9))), (3, .slice Al3 l3.length cl3), (9, .slice AR13 t11.1.length cR13), (11, .slice AR16 t14.1.length cR16), (88, .bool (!(t23 == t28)))]) (by kernel_rfl) ?_
                  refine QP.pick [0, 1, 2, 3, 9, 11, 88] ?_
                  exact QP.meet ⟨_, Option.some.inj h, rfl, rfl, rfl⟩
                · replace hc := ne_of_beq_false hc
                  rw [if_neg hc] at h
                  have hc27 := hc
                  clear hc
                  refine WL.rest 30 [0, 1, 2, 3, 9, 11, 88] (L' := [(0, .int .i64 (IntKind.i64.wrap (1 + t7))), (1, .slice Al1 l1.length cl1), (2, .int .i64 (IntKind.i64.wrap (1 + t9))), (3, .slice Al3 l3.length cl3), (9, .slice AR13 t11.1.length cR13), (11, .slice AR16 t14.1.length cR16), (88, .bool (!(t23 == false)))]) (by kernel_rfl) ?_
                  refine QP.pick [0, 1, 2, 3, 9, 11, 88] ?_
                  exact QP.meet ⟨_, Option.some.inj h, rfl, rfl, rfl⟩
      · rintro _ _ _ ⟨s17, rfl, rfl, rfl, rfl⟩
        clear h
        replace h := hk18
        refine WP.cond (b := s17) (by kernel_rfl) (fun hc => ?_) (fun hc => ?_)
        · replace hc := hc
          rw [if_pos hc] at h
          have hc30 := hc
          clear hc
          refine WP.seqP [8] (L' := [(8, .bool false)]) (by kernel_rfl) ?_
          refine WP.ret ?_
          refine QP.thenR ?_
          obtain rfl := Option.some.inj h
          refine QP.dropAt 1 ?_
          refine QP.dropAt 0 ?_
          exact QP.returned [8] [.bool false] _ (by kernel_rfl) (by kernel_rfl) (by kernel_rfl) (fun W hI => ⟨_, _, _, rfl, ⟨rfl, rfl, rfl⟩, hI⟩)
        · replace hc := (Bool.eq_false_iff.1 hc)
          rw [if_neg hc] at h
          have hc30 := hc
          clear hc
          refine WP.skip ?_
          refine QP.next ?_
          refine WP.pick [0, 1, 2, 3, 9, 11] ?_
          refine WP.seqR ?_
          refine WL.pure 0 1 [0, 1, 2, 3, 9, 11, 89] (L' := [(0, .int .i64 (IntKind.i64.wrap (1 + t7))), (1, .slice Al1 l1.length cl1), (2, .int .i64 (IntKind.i64.wrap (1 + t9))), (3, .slice Al3 l3.length cl3), (9, .slice AR13 t11.1.length cR13), (11, .slice AR16 t14.1.length cR16), (89, .slice AR13 t11.1.length cR13)]) (by kernel_rfl) (by decide) ?_
          refine WL.addNil ?_
          by_cases hb31 : ([] : List Int).length + t11.1.length ≤ 1073741824
          case neg => rw [if_neg hb31] at h; cases h
          rw [if_pos hb31] at h
          refine WL.op (op := .call { callee := (.builtin .append), args := #[(.const (.slice none 0 0)), (.tmp 89)], argTypes := #[32, 32] }) (ty := 32) (d := some 90) (g := none) (by kernel_rfl) (by kernel_rfl) (by kernel_rfl) (Ow.append (ys := t11.1) (v := .slice AR13 t11.1.length cR13) (Ow.nil (kInt .u8) G) (i := 0) rfl (by kernel_rfl) (by kernel_rfl) (HR13.src (i := 2) rfl) sl32 ze5 nt32 (by decide) hb31) ?_
          rintro _ _ _ ⟨rfl, AN32, cN32, CN32, rfl, HN32, rfl⟩
          refine WL.pure 2 3 [0, 1, 2, 3, 9, 90, 91] (L' := [(0, .int .i64 (IntKind.i64.wrap (1 + t7))), (1, .slice Al1 l1.length cl1), (2, .int .i64 (IntKind.i64.wrap (1 + t9))), (3, .slice Al3 l3.length cl3), (9, .slice AR13 t11.1.length cR13), (90, .slice AN32 (([] : List Int) ++ t11.1).length cN32), (91, .slice AR16 t14.1.length cR16)]) (by kernel_rfl) (by decide) ?_
          by_cases hb33 : (([] : List Int) ++ t11.1).length + t14.1.length ≤ 1073741824
          case neg => rw [if_neg hb33] at h; cases h
          rw [if_pos hb33] at h
          refine WL.op (op := .call { callee := (.builtin .append), args := #[(.tmp 90), (.tmp 91)], argTypes := #[32, 32] }) (ty := 32) (d := some 92) (g := none) (by kernel_rfl) (by kernel_rfl) (by kernel_rfl) (Ow.append (ys := t14.1) (v := .slice AR16 t14.1.length cR16) HN32 (i := 0) rfl (by kernel_rfl) (by kernel_rfl) (HR16.src (i := 1) rfl) sl32 ze5 nt32 (by decide) hb33) ?_
          rintro _ _ _ ⟨rfl, AN34, cN34, CN34, rfl, HN34, rfl⟩
          refine WL.restQ 4 [0, 1, 2, 3, 9, 13] (L' := [(0, .int .i64 (IntKind.i64.wrap (1 + t7))), (1, .slice Al1 l1.length cl1), (2, .int .i64 (IntKind.i64.wrap (1 + t9))), (3, .slice Al3 l3.length cl3), (9, .slice AR13 t11.1.length cR13), (13, .slice AN34 ((([] : List Int) ++ t11.1) ++ t14.1).length cN34)]) (by kernel_rfl) ?_
          obtain ⟨v35, hv36, h⟩ := Option.bind_eq_some_iff.1 h
          replace hv36 := Option.some.inj hv36
          have Hn37 := HN34
          rw [hv36] at Hn37
          refine WP.reput 13 (v := .slice AN34 ((([] : List Int) ++ t11.1) ++ t14.1).length cN34) (v' := .slice AN34 v35.length cN34) (by kernel_rfl) (by subst hv36; rfl) ?_
          refine WP.pick [0, 1, 2, 3, 9, 13] ?_
          refine WP.seqR ?_
          refine WL.pure 0 1 [0, 1, 2, 3, 9, 13, 94] (L' := [(0, .int .i64 (IntKind.i64.wrap (1 + t7))), (1, .slice Al1 l1.length cl1), (2, .int .i64 (IntKind.i64.wrap (1 + t9))), (3, .slice Al3 l3.length cl3), (9, .slice AR13 t11.1.length cR13), (13, .slice AN34 v35.length cN34), (94, .slice AN34 v35.length cN34)]) (by kernel_rfl) (by decide) ?_
          rw [Option.bind_eq_some_iff] at h
          obtain ⟨t38, ht39, h⟩ := h
          refine WL.op (op := .call { callee := (.value (.func 24)), args := #[(.tmp 94), (.const (.int .i64 0))], argTypes := #[32, 3] }) (ty := 45) (d := some 95) (g := none) (by kernel_rfl) (by kernel_rfl) (by kernel_rfl) (Does.call (Φ := fun v' G' Γ' => ∃ (AR40 : Option Addr), ∃ (cR40 : Nat), ∃ (CR40 : Chunk), v' = .tuple #[.int .i64 t38.1, .slice AR40 t38.2.1.length cR40, .int .i64 t38.2.2.1, .bool t38.2.2.2] ∧ Ow (kInt .u8) G AR40 cR40 t38.2.1 CR40 ∧ G = G' ∧ CR40 :: CN34 :: CR16 :: CR13 :: Γ = Γ') (f := 24) (args := [.slice AN34 v35.length cN34, .int .i64 0]) (by kernel_rfl) (fun W hI => (Calls.lendR (Φ := fun v' N => ∃ (AR40 : Option Addr), ∃ (cR40 : Nat), ∃ (CR40 : Chunk), v' = .tuple #[.int .i64 t38.1, .slice AR40 t38.2.1.length cR40, .int .i64 t38.2.2.1, .bool t38.2.2.2] ∧ Ow (kInt .u8) G AR40 cR40 t38.2.1 CR40 ∧ N = [CR40]) (i := 0) rfl (Ow.nodup Hn37) hI (fun _ e l41 hI => by subst e; exact ((frame_Next_calls k v35 0 AN34 cN34 (Hn37.rd l41) t38 ht39 hI).mono fun _ _ hr => by obtain ⟨_, _, _, rfl, ⟨AR40, cR40, CR40, rfl, HR40, rfl, rfl⟩, hI⟩ := hr; exact ⟨_, _, _, rfl, ⟨[CR40], ⟨AR40, cR40, CR40, rfl, (HR40.flat (kInt_flat _)), rfl⟩, rfl, rfl⟩, hI⟩))).mono fun _ _ hr => by obtain ⟨_, _, _, rfl, ⟨_, ⟨AR40, cR40, CR40, rfl, HR40, rfl⟩, rfl, rfl⟩, hI⟩ := hr; exact ⟨_, _, _, rfl, ⟨AR40, cR40, CR40, rfl, HR40, rfl, rfl⟩, hI⟩)) ?_
          rintro _ _ _ ⟨AR40, cR40, CR40, rfl, HR40, rfl, rfl⟩
          refine WL.restQ 2 [0, 1, 2, 3, 9, 13, 14, 15, 16, 17] (L' := [(0, .int .i64 (IntKind.i64.wrap (1 + t7))), (1, .slice Al1 l1.length cl1), (2, .int .i64 (IntKind.i64.wrap (1 + t9))), (3, .slice Al3 l3.length cl3), (9, .slice AR13 t11.1.length cR13), (13, .slice AN34 v35.length cN34), (14, .int .i64 t38.1), (15, .slice AR40 t38.2.1.length cR40), (16, .int .i64 t38.2.2.1), (17, .bool t38.2.2.2)]) (by kernel_rfl) ?_
          refine WP.seqR ?_
          refine WL.pure 0 3 [0, 1, 2, 3, 9, 13, 14, 15, 16, 17, 101, 103] (L' := [(0, .int .i64 (IntKind.i64.wrap (1 + t7))), (1, .slice Al1 l1.length cl1), (2, .int .i64 (IntKind.i64.wrap (1 + t9))), (3, .slice Al3 l3.length cl3), (9, .slice AR13 t11.1.length cR13), (13, .slice AN34 v35.length cN34), (14, .int .i64 t38.1), (15, .slice AR40 t38.2.1.length cR40), (16, .int .i64 t38.2.2.1), (17, .bool t38.2.2.2), (101, .slice AN34 v35.length cN34), (103, .int .i64 (t11.1.length : Int))]) (by kernel_rfl) (by decide) ?_
          rw [Option.bind_eq_some_iff] at h
          obtain ⟨t42, ht43, h⟩ := h
          refine WL.op (op := .call { callee := (.value (.func 24)), args := #[(.tmp 101), (.tmp 103)], argTypes := #[32, 3] }) (ty := 45) (d := some 104) (g := none) (by kernel_rfl) (by kernel_rfl) (by kernel_rfl) (Does.call (Φ := fun v' G' Γ' => ∃ (AR44 : Option Addr), ∃ (cR44 : Nat), ∃ (CR44 : Chunk), v' = .tuple #[.int .i64 t42.1, .slice AR44 t42.2.1.length cR44, .int .i64 t42.2.2.1, .bool t42.2.2.2] ∧ Ow (kInt .u8) G AR44 cR44 t42.2.1 CR44 ∧ G = G' ∧ CR44 :: CR40 :: CN34 :: CR16 :: CR13 :: Γ = Γ') (f := 24) (args := [.slice AN34 v35.length cN34, .int .i64 (t11.1.length : Int)]) (by kernel_rfl) (fun W hI => (Calls.lendR (Φ := fun v' N => ∃ (AR44 : Option Addr), ∃ (cR44 : Nat), ∃ (CR44 : Chunk), v' = .tuple #[.int .i64 t42.1, .slice AR44 t42.2.1.length cR44, .int .i64 t42.2.2.1, .bool t42.2.2.2] ∧ Ow (kInt .u8) G AR44 cR44 t42.2.1 CR44 ∧ N = [CR44]) (i := 1) rfl (Ow.nodup Hn37) hI (fun _ e l45 hI => by subst e; exact ((frame_Next_calls k v35 (t11.1.length : Int) AN34 cN34 (Hn37.rd l45) t42 ht43 hI).mono fun _ _ hr => by obtain ⟨_, _, _, rfl, ⟨AR44, cR44, CR44, rfl, HR44, rfl, rfl⟩, hI⟩ := hr; exact ⟨_, _, _, rfl, ⟨[CR44], ⟨AR44, cR44, CR44, rfl, (HR44.flat (kInt_flat _)), rfl⟩, rfl, rfl⟩, hI⟩))).mono fun _ _ hr => by obtain ⟨_, _, _, rfl, ⟨_, ⟨AR44, cR44, CR44, rfl, HR44, rfl⟩, rfl, rfl⟩, hI⟩ := hr; exact ⟨_, _, _, rfl, ⟨AR44, cR44, CR44, rfl, HR44, rfl, rfl⟩, hI⟩)) ?_
          rintro _ _ _ ⟨AR44, cR44, CR44, rfl, HR44, rfl, rfl⟩
          refine WL.restQ 4 [0, 1, 2, 3, 9, 13, 14, 15, 16, 17, 18, 19, 20, 21] (L' := [(0, .int .i64 (IntKind.i64.wrap (1 + t7))), (1, .slice Al1 l1.length cl1), (2, .int .i64 (IntKind.i64.wrap (1 + t9))), (3, .slice Al3 l3.length cl3), (9, .slice AR13 t11.1.length cR13), (13, .slice AN34 v35.length cN34), (14, .int .i64 t38.1), (15, .slice AR40 t38.2.1.length cR40), (16, .int .i64 t38.2.2.1), (17, .bool t38.2.2.2), (18, .int .i64 t42.1), (19, .slice AR44 t42.2.1.length cR44), (20, .int .i64 t42.2.2.1), (21, .bool t42.2.2.2)]) (by kernel_rfl) ?_
          refine WP.seqR ?_
          refine WL.pure 0 1 [0, 1, 2, 3, 9, 13, 14, 15, 16, 17, 18, 19, 20, 21, 110] (L' := [(0, .int .i64 (IntKind.i64.wrap (1 + t7))), (1, .slice Al1 l1.length cl1), (2, .int .i64 (IntKind.i64.wrap (1 + t9))), (3, .slice Al3 l3.length cl3), (9, .slice AR13 t11.1.length cR13), (13, .slice AN34 v35.length cN34), (14, .int .i64 t38.1), (15, .slice AR40 t38.2.1.length cR40), (16, .int .i64 t38.2.2.1), (17, .bool t38.2.2.2), (18, .int .i64 t42.1), (19, .slice AR44 t42.2.1.length cR44), (20, .int .i64 t42.2.2.1), (21, .bool t42.2.2.2), (110, .slice AN34 v35.length cN34)]) (by kernel_rfl) (by decide) ?_
          rw [Option.bind_eq_some_iff] at h
          obtain ⟨t46, ht47, h⟩ := h
          refine WL.op (op := .call { callee := (.value (.func 24)), args := #[(.tmp 110), (.const (.int .i64 1))], argTypes := #[32, 3] }) (ty := 45) (d := some 111) (g := none) (by kernel_rfl) (by kernel_rfl) (by kernel_rfl) (Does.call (Φ := fun v' G' Γ' => ∃ (AR48 : Option Addr), ∃ (cR48 : Nat), ∃ (CR48 : Chunk), v' = .tuple #[.int .i64 t46.1, .slice AR48 t46.2.1.length cR48, .int .i64 t46.2.2.1, .bool t46.2.2.2] ∧ Ow (kInt .u8) G AR48 cR48 t46.2.1 CR48 ∧ G = G' ∧ CR48 :: CR44 :: CR40 :: CN34 :: CR16 :: CR13 :: Γ = Γ') (f := 24) (args := [.slice AN34 v35.length cN34, .int .i64 1]) (by kernel_rfl) (fun W hI => (Calls.lendR (Φ := fun v' N => ∃ (AR48 : Option Addr), ∃ (cR48 : Nat), ∃ (CR48 : Chunk), v' = .tuple #[.int .i64 t46.1, .slice AR48 t46.2.1.length cR48, .int .i64 t46.2.2.1, .bool t46.2.2.2] ∧ Ow (kInt .u8) G AR48 cR48 t46.2.1 CR48 ∧ N = [CR48]) (i := 2) rfl (Ow.nodup Hn37) hI (fun _ e l49 hI => by subst e; exact ((frame_Next_calls k v35 1 AN34 cN34 (Hn37.rd l49) t46 ht47 hI).mono fun _ _ hr => by obtain ⟨_, _, _, rfl, ⟨AR48, cR48, CR48, rfl, HR48, rfl, rfl⟩, hI⟩ := hr; exact ⟨_, _, _, rfl, ⟨[CR48], ⟨AR48, cR48, CR48, rfl, (HR48.flat (kInt_flat _)), rfl⟩, rfl, rfl⟩, hI⟩))).mono fun _ _ hr => by obtain ⟨_, _, _, rfl, ⟨_, ⟨AR48, cR48, CR48, rfl, HR48, rfl⟩, rfl, rfl⟩, hI⟩ := hr; exact ⟨_, _, _, rfl, ⟨AR48, cR48, CR48, rfl, HR48, rfl, rfl⟩, hI⟩)) ?_
          rintro _ _ _ ⟨AR48, cR48, CR48, rfl, HR48, rfl, rfl⟩
          refine WL.restQ 2 [0, 1, 2, 3, 9, 13, 14, 15, 16, 17, 18, 19, 20, 21, 24] (L' := [(0, .int .i64 (IntKind.i64.wrap (1 + t7))), (1, .slice Al1 l1.length cl1), (2, .int .i64 (IntKind.i64.wrap (1 + t9))), (3, .slice Al3 l3.length cl3), (9, .slice AR13 t11.1.length cR13), (13, .slice AN34 v35.length cN34), (14, .int .i64 t38.1), (15, .slice AR40 t38.2.1.length cR40), (16, .int .i64 t38.2.2.1), (17, .bool t38.2.2.2), (18, .int .i64 t42.1), (19, .slice AR44 t42.2.1.length cR44), (20, .int .i64 t42.2.2.1), (21, .bool t42.2.2.2), (24, .int .i64 t46.2.2.1)]) (by kernel_rfl) ?_
          rw [Option.bind_eq_some_iff] at h
          obtain ⟨os50, h, hk51⟩ := h
          refine WP.cut (fun L' G' Γ' => ∃ s50 : Bool, s50 = os50 ∧ L' = [(8, .bool s50)] ∧ G = G' ∧ CR48 :: CR44 :: CR40 :: CN34 :: CR16 :: CR13 :: Γ = Γ') ?_ ?_
          · clear hk51
            refine WP.region ?_
            refine WL.pure 0 2 [0, 1, 2, 3, 9, 13, 14, 15, 16, 18, 19, 20, 21, 24, 117] (L' := [(0, .int .i64 (IntKind.i64.wrap (1 + t7))), (1, .slice Al1 l1.length cl1), (2, .int .i64 (IntKind.i64.wrap (1 + t9))), (3, .slice Al3 l3.length cl3), (9, .slice AR13 t11.1.length cR13), (13, .slice AN34 v35.length cN34), (14, .int .i64 t38.1), (15, .slice AR40 t38.2.1.length cR40), (16, .int .i64 t38.2.2.1), (18, .int .i64 t42.1), (19, .slice AR44 t42.2.1.length cR44), (20, .int .i64 t42.2.2.1), (21, .bool t42.2.2.2), (24, .int .i64 t46.2.2.1), (117, .bool t38.2.2.2)]) (by kernel_rfl) (by decide) ?_
            refine WL.split 117 (b := t38.2.2.2) (by kernel_rfl) (fun hc => ?_) (fun hc => ?_)
            · replace hc := hc
              rw [if_pos hc] at h
              have hc52 := hc
              clear hc
              refine WL.pure 2 5 [0, 1, 2, 3, 9, 13, 14, 15, 16, 18, 19, 20, 24, 120] (L' := [(0, .int .i64 (IntKind.i64.wrap (1 + t7))), (1, .slice Al1 l1.length cl1), (2, .int .i64 (IntKind.i64.wrap (1 + t9))), (3, .slice Al3 l3.length cl3), (9, .slice AR13 t11.1.length cR13), (13, .slice AN34 v35.length cN34), (14, .int .i64 t38.1), (15, .slice AR40 t38.2.1.length cR40), (16, .int .i64 t38.2.2.1), (18, .int .i64 t42.1), (19, .slice AR44 t42.2.1.length cR44), (20, .int .i64 t42.2.2.1), (24, .int .i64 t46.2.2.1), (120, .bool t42.2.2.2)]) (by kernel_rfl) (by decide) ?_
              refine WL.split 120 (b := t42.2.2.2) (by kernel_rfl) (fun hc => ?_) (fun hc => ?_)
              · replace hc := hc
                rw [if_pos hc] at h
                have hc53 := hc
                clear hc
                refine WL.pure 5 10 [1, 2, 3, 9, 13, 15, 16, 18, 19, 20, 24, 125] (L' := [(1, .slice Al1 l1.length cl1), (2, .int .i64 (IntKind.i64.wrap (1 + t9))), (3, .slice Al3 l3.length cl3), (9, .slice AR13 t11.1.length cR13), (13, .slice AN34 v35.length cN34), (15, .slice AR40 t38.2.1.length cR40), (16, .int .i64 t38.2.2.1), (18, .int .i64 t42.1), (19, .slice AR44 t42.2.1.length cR44), (20, .int .i64 t42.2.2.1), (24, .int .i64 t46.2.2.1), (125, .bool (t38.1 == (IntKind.i64.wrap (1 + t7))))]) (by kernel_rfl) (by decide) ?_
                refine WL.split 125 (b := (t38.1 == (IntKind.i64.wrap (1 + t7)))) (by kernel_rfl) (fun hc => ?_) (fun hc => ?_)
                · replace hc := eq_of_beq hc
                  rw [if_pos hc] at h
                  have hc54 := hc
                  clear hc
                  refine WL.pure 10 15 [1, 3, 9, 13, 15, 16, 19, 20, 24, 130] (L' := [(1, .slice Al1 l1.length cl1), (3, .slice Al3 l3.length cl3), (9, .slice AR13 t11.1.length cR13), (13, .slice AN34 v35.length cN34), (15, .slice AR40 t38.2.1.length cR40), (16, .int .i64 t38.2.2.1), (19, .slice AR44 t42.2.1.length cR44), (20, .int .i64 t42.2.2.1), (24, .int .i64 t46.2.2.1), (130, .bool (t42.1 == (IntKind.i64.wrap (1 + t9))))]) (by kernel_rfl) (by decide) ?_
                  refine WL.split 130 (b := (t42.1 == (IntKind.i64.wrap (1 + t9)))) (by kernel_rfl) (fun hc => ?_) (fun hc => ?_)
                  · replace hc := eq_of_beq hc
                    rw [if_pos hc] at h
                    have hc55 := hc
                    clear hc
                    refine WL.pure 15 17 [3, 9, 13, 16, 19, 20, 24, 130, 131, 132] (L' := [(3, .slice Al3 l3.length cl3), (9, .slice AR13 t11.1.length cR13), (13, .slice AN34 v35.length cN34), (16, .int .i64 t38.2.2.1), (19, .slice AR44 t42.2.1.length cR44), (20, .int .i64 t42.2.2.1), (24, .int .i64 t46.2.2.1), (130, .bool true), (131, .slice AR40 t38.2.1.length cR40), (132, .slice Al1 l1.length cl1)]) (by kernel_rfl) (by decide) ?_
                    rw [Option.bind_eq_some_iff] at h
                    obtain ⟨t56, ht57, h⟩ := h
                    refine WL.op (op := .call { callee := (.value (.func 21)), args := #[(.tmp 131), (.tmp 132)], argTypes := #[32, 32] }) (ty := 4) (d := some 133) (g := some (14, true)) (by kernel_rfl) (by kernel_rfl) (by kernel_rfl) (Does.call (Φ := fun v' G' Γ' => v' = .bool t56 ∧ G = G' ∧ CR48 :: CR44 :: CR40 :: CN34 :: CR16 :: CR13 :: Γ = Γ') (f := 21) (args := [.slice AR40 t38.2.1.length cR40, .slice Al1 l1.length cl1]) (by kernel_rfl) (fun W hI => Calls.lend (i := 2) rfl (Ow.nodup HR40) hI (fun _ e l58 hI => by subst e; exact (grapevinelaw0_SameBytes_calls k t38.2.1 l1 AR40 cR40 (HR40.rd l58) Al1 cl1 (Hl1.mono l58) t56 ht57 hI)))) ?_
                    rintro _ _ _ ⟨rfl, rfl, rfl⟩
                    refine WL.pure 18 20 [3, 9, 13, 16, 19, 20, 24, 135] (L' := [(3, .slice Al3 l3.length cl3), (9, .slice AR13 t11.1.length cR13), (13, .slice AN34 v35.length cN34), (16, .int .i64 t38.2.2.1), (19, .slice AR44 t42.2.1.length cR44), (20, .int .i64 t42.2.2.1), (24, .int .i64 t46.2.2.1), (135, .bool t56)]) (by kernel_rfl) (by decide) ?_
                    refine WL.split 135 (b := t56) (by kernel_rfl) (fun hc => ?_) (fun hc => ?_)
                    · replace hc := hc
                      rw [if_pos hc] at h
                      have hc59 := hc
                      clear hc
                      refine WL.pure 20 22 [9, 13, 16, 20, 24, 135, 136, 137] (L' := [(9, .slice AR13 t11.1.length cR13), (13, .slice AN34 v35.length cN34), (16, .int .i64 t38.2.2.1), (20, .int .i64 t42.2.2.1), (24, .int .i64 t46.2.2.1), (135, .bool true), (136, .slice AR44 t42.2.1.length cR44), (137, .slice Al3 l3.length cl3)]) (by kernel_rfl) (by decide) ?_
                      rw [Option.bind_eq_some_iff] at h
                      obtain ⟨t60, ht61, h⟩ := h
                      refine WL.op (op := .call { callee := (.value (.func 21)), args := #[(.tmp 136), (.tmp 137)], argTypes := #[32, 32] }) (ty := 4) (d := some 138) (g := some (19, true)) (by kernel_rfl) (by kernel_rfl) (by kernel_rfl) (Does.call (Φ := fun v' G' Γ' => v' = .bool t60 ∧ G = G' ∧ CR48 :: CR44 :: CR40 :: CN34 :: CR16 :: CR13 :: Γ = Γ') (f := 21) (args := [.slice AR44 t42.2.1.length cR44, .slice Al3 l3.length cl3]) (by kernel_rfl) (fun W hI => Calls.lend (i := 1) rfl (Ow.nodup HR44) hI (fun _ e l62 hI => by subst e; exact (grapevinelaw0_SameBytes_calls k t42.2.1 l3 AR44 cR44 (HR44.rd l62) Al3 cl3 (Hl3.mono l62) t60 ht61 hI)))) ?_
                      rintro _ _ _ ⟨rfl, rfl, rfl⟩
                      refine WL.pure 23 25 [9, 13, 16, 20, 24, 140] (L' := [(9, .slice AR13 t11.1.length cR13), (13, .slice AN34 v35.length cN34), (16, .int .i64 t38.2.2.1), (20, .int .i64 t42.2.2.1), (24, .int .i64 t46.2.2.1), (140, .bool t60)]) (by kernel_rfl) (by decide) ?_
                      refine WL.split 140 (b := t60) (by kernel_rfl) (fun hc => ?_) (fun hc => ?_)
                      · replace hc := hc
                        rw [if_pos hc] at h
                        have hc63 := hc
                        clear hc
                        refine WL.pure 25 31 [9, 13, 20, 24, 146] (L' := [(9, .slice AR13 t11.1.length cR13), (13, .slice AN34 v35.length cN34), (20, .int .i64 t42.2.2.1), (24, .int .i64 t46.2.2.1), (146, .bool (t38.2.2.1 == (t11.1.length : Int)))]) (by kernel_rfl) (by decide) ?_
                        refine WL.split 146 (b := (t38.2.2.1 == (t11.1.length : Int))) (by kernel_rfl) (fun hc => ?_) (fun hc => ?_)
                        · replace hc := eq_of_beq hc
                          rw [if_pos hc] at h
                          have hc64 := hc
                          clear hc
                          refine WL.pure 31 37 [9, 24, 152] (L' := [(9, .slice AR13 t11.1.length cR13), (24, .int .i64 t46.2.2.1), (152, .bool (t42.2.2.1 == (v35.length : Int)))]) (by kernel_rfl) (by decide) ?_
                          refine WL.split 152 (b := (t42.2.2.1 == (v35.length : Int))) (by kernel_rfl) (fun hc => ?_) (fun hc => ?_)
                          · replace hc := eq_of_beq hc
                            rw [if_pos hc] at h
                            have hc65 := hc
                            clear hc
                            refine WL.pure 37 43 [158] (L' := [(158, .bool (t46.2.2.1 != (t11.1.length : Int)))]) (by kernel_rfl) (by decide) ?_
                            refine WL.split 158 (b := (t46.2.2.1 != (t11.1.length : Int))) (by kernel_rfl) (fun hc => ?_) (fun hc => ?_)
                            · replace hc := (bne_iff_ne.1 hc)
                              rw [if_pos hc] at h
                              have hc66 := hc
                              clear hc
                              rw [Option.bind_eq_some_iff] at h
                              obtain ⟨t67, ht68, h⟩ := h
                              refine WL.op (op := .call { callee := (.value (.func 18)), args := #[], argTypes := #[] }) (ty := 4) (d := some 159) (g := some (42, true)) (by kernel_rfl) (by kernel_rfl) (by kernel_rfl) (Does.call (f := 18) (args := []) (by kernel_rfl) (fun W hI => (grapevinelaw6_awake_calls k   t67 ht68 hI))) ?_
                              rintro _ _ _ ⟨rfl, rfl, rfl⟩
                              refine WL.rest 44 [8] (L' := [(8, .bool t67)]) (by kernel_rfl) ?_
                              refine QP.pick [8] ?_
                              exact QP.meet ⟨_, Option.some.inj h, rfl, rfl, rfl⟩
                            · replace hc := (not_not_intro (bne_eq_false_iff_eq.1 hc))
                              rw [if_neg hc] at h
                              have hc66 := hc
                              clear hc
                              refine WL.rest 43 [8] (L' := [(8, .bool false)]) (by kernel_rfl) ?_
                              refine QP.pick [8] ?_
                              exact QP.meet ⟨_, Option.some.inj h, rfl, rfl, rfl⟩
                          · replace hc := ne_of_beq_false hc
                            rw [if_neg hc] at h
                            have hc65 := hc
                            clear hc
                            refine WL.rest 37 [8] (L' := [(8, .bool false)]) (by kernel_rfl) ?_
                            refine QP.pick [8] ?_
                            exact QP.meet ⟨_, Option.some.inj h, rfl, rfl, rfl⟩
                        · replace hc := ne_of_beq_false hc
                          rw [if_neg hc] at h
                          have hc64 := hc
                          clear hc
                          refine WL.rest 31 [8] (L' := [(8, .bool false)]) (by kernel_rfl) ?_
                          refine QP.pick [8] ?_
                          exact QP.meet ⟨_, Option.some.inj h, rfl, rfl, rfl⟩
                      · replace hc := (Bool.eq_false_iff.1 hc)
                        rw [if_neg hc] at h
                        have hc63 := hc
                        clear hc
                        refine WL.rest 25 [8] (L' := [(8, .bool false)]) (by kernel_rfl) ?_
                        refine QP.pick [8] ?_
                        exact QP.meet ⟨_, Option.some.inj h, rfl, rfl, rfl⟩
                    · replace hc := (Bool.eq_false_iff.1 hc)
                      rw [if_neg hc] at h
                      have hc59 := hc
                      clear hc
                      refine WL.rest 20 [8] (L' := [(8, .bool false)]) (by kernel_rfl) ?_
                      refine QP.pick [8] ?_
                      exact QP.meet ⟨_, Option.some.inj h, rfl, rfl, rfl⟩
                  · replace hc := ne_of_beq_false hc
                    rw [if_neg hc] at h
                    have hc55 := hc
                    clear hc
                    refine WL.rest 15 [8] (L' := [(8, .bool false)]) (by kernel_rfl) ?_
                    refine QP.pick [8] ?_
                    exact QP.meet ⟨_, Option.some.inj h, rfl, rfl, rfl⟩
                · replace hc := ne_of_beq_false hc
                  rw [if_neg hc] at h
                  have hc54 := hc
                  clear hc
                  refine WL.rest 10 [8] (L' := [(8, .bool false)]) (by kernel_rfl) ?_
                  refine QP.pick [8] ?_
                  exact QP.meet ⟨_, Option.some.inj h, rfl, rfl, rfl⟩
              · replace hc := (Bool.eq_false_iff.1 hc)
                rw [if_neg hc] at h
                have hc53 := hc
                clear hc
                refine WL.rest 5 [8] (L' := [(8, .bool false)]) (by kernel_rfl) ?_
                refine QP.pick [8] ?_
                exact QP.meet ⟨_, Option.some.inj h, rfl, rfl, rfl⟩
            · replace hc := (Bool.eq_false_iff.1 hc)
              rw [if_neg hc] at h
              have hc52 := hc
              clear hc
              refine WL.rest 2 [8] (L' := [(8, .bool false)]) (by kernel_rfl) ?_
              refine QP.pick [8] ?_
              exact QP.meet ⟨_, Option.some.inj h, rfl, rfl, rfl⟩
          · rintro _ _ _ ⟨s50, rfl, rfl, rfl, rfl⟩
            clear h
            replace h := hk51
            refine WP.ret ?_
            obtain rfl := Option.some.inj h
            refine QP.dropAt 5 ?_
            refine QP.dropAt 4 ?_
            refine QP.dropAt 3 ?_
            refine QP.dropAt 2 ?_
            refine QP.dropAt 1 ?_
            refine QP.dropAt 0 ?_
            exact QP.returned [8] [.bool s50] _ (by kernel_rfl) (by kernel_rfl) (by kernel_rfl) (fun W hI => ⟨_, _, _, rfl, ⟨rfl, rfl, rfl⟩, hI⟩)
/-- The plain law. -/
def FrameUnlike_Pure : Prop := ∀ (a0 : Int) (l1 : List Int) (a2 : Int) (l3 : List Int), (Lit.int .i64 a0).wf = true → (l1.length ≤ maxLen ∧ ∀ z0 ∈ l1, (Lit.int .u8 z0).wf = true) → (Lit.int .i64 a2).wf = true → (l3.length ≤ maxLen ∧ ∀ z0 ∈ l3, (Lit.int .u8 z0).wf = true) → ∃ k, grapevinelaw6_FrameUnlike k a0 l1 a2 l3 = some true
end Go.Proofs.Ytanogihdhnhpaaa.Gf
