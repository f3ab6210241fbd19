/- Walks of Go functions: what each tells, as a plain Lean function, and that the Go code comes to it. Written by gg.py of this repo. -/
import Derived.Test.YtanogihdhnhpaaaT
import Derived.Test.YtanogihdhnhpaaaF0
import Derived.Test.YtanogihdhnhpaaaF1
namespace Go.Proofs.Ytanogihdhnhpaaa.Gf
open Go Go.Gg
set_option maxRecDepth 100000
set_option linter.unusedVariables false
set_option linter.unusedSimpArgs false

/-! ### grapevine/grapevinelaw6.FrameFinds: function 7 -/
def grapevinelaw6_FrameFinds (k : Nat) (l0 : List Int) (a1 : Int) : Option Bool := (if (l0.length : Int) > 2000 then ((grapevinelaw6_awake k ).bind fun t2 => some t2) else (if l0.length + 3 ≤ 1073741824 then ((frame_Next k l0 a1).bind fun t12 => ((grapevineref6_Next k l0 a1).bind fun t15 => ((frame_Count k l0).bind fun t18 => ((grapevineref6_Count k l0).bind fun t20 => ((if t12.1 = t15.1 then ((grapevinelaw0_SameBytes k t12.2.1 t15.2.1).bind fun t25 => (if t25 = true then (if t12.2.2.1 = t15.2.2.1 then (if (t12.2.2.2 == t15.2.2.2) = true then (if t18.1 = t20.1 then (if t18.2 = t20.2 then ((grapevinelaw0_KeptBytes k l0 l0).bind fun t34 => some t34) else some false) else some false) else some false) else some false) else some false)) else some false).bind fun s22 => ((grapevinelaw0_OverBytes k t12.2.1).bind fun t36 => ((if s22 = true then ((grapevinelaw0_KeptBytes k l0 l0).bind fun t41 => (if t41 = true then ((grapevinelaw6_awake k ).bind fun t44 => some t44) else some false)) else some false).bind fun s38 => some s38))))))) else none))
set_option maxHeartbeats 4000000 in
theorem grapevinelaw6_FrameFinds_calls {B : World} {G : GMap} {Γ : List Chunk} {W : World} (k : Nat) (l0 : List Int) (a1 : Int) (Al0 : Option Addr) (cl0 : Nat) (Hl0 : Rd (kInt .u8) G Al0 cl0 l0) (r : Bool) (h : grapevinelaw6_FrameFinds k l0 a1 = some r) (hI : Inv B G (Γ) W) :
    Calls Try.prog 7 [.slice Al0 l0.length cl0, .int .i64 a1].toArray W (Ret B (fun v G' Γ' => v = .bool r ∧ G = G' ∧ Γ = Γ')) := by
  refine calls_WP (Γ := Γ) (G := G) (B := B) Try.func7 rfl (by kernel_rfl) ?_ hI
  clear hI
  unfold grapevinelaw6_FrameFinds at h
  refine WP.seqP [0, 1] (L' := [(0, .slice Al0 l0.length cl0), (1, .int .i64 a1)]) (by kernel_rfl) ?_
  refine WP.seq ?_
  refine WP.seqP [0, 1, 21] (L' := [(0, .slice Al0 l0.length cl0), (1, .int .i64 a1), (21, .bool (decide ((l0.length : Int) > 2000)))]) (by kernel_rfl) ?_
  refine WP.cond (b := decide ((l0.length : Int) > 2000)) (by kernel_rfl) (fun hc => ?_) (fun hc => ?_)
  · replace hc := of_decide_eq_true hc
    rw [if_pos hc] at h
    have hc1 := hc
    clear hc
    refine WP.seqR ?_
    rw [Option.bind_eq_some_iff] at h
    obtain ⟨t2, ht3, h⟩ := h
    refine WL.op (op := .call { callee := (.value (.func 18)), args := #[], argTypes := #[] }) (ty := 4) (d := some 22) (g := none) (by kernel_rfl) (by kernel_rfl) (by kernel_rfl) (Does.call (f := 18) (args := []) (by kernel_rfl) (fun W hI => (grapevinelaw6_awake_calls k   t2 ht3 hI))) ?_
    rintro _ _ _ ⟨rfl, rfl, rfl⟩
    refine WL.restQ 1 [4] (L' := [(4, .bool t2)]) (by kernel_rfl) ?_
    refine WP.ret ?_
    refine QP.thenR ?_
    obtain rfl := Option.some.inj h
    exact QP.returned [4] [.bool t2] _ (by kernel_rfl) (by kernel_rfl) (by kernel_rfl) (fun W hI => ⟨_, _, _, rfl, ⟨rfl, rfl, rfl⟩, hI⟩)
  · replace hc := of_decide_eq_false hc
    rw [if_neg hc] at h
    have hc1 := hc
    clear hc
    refine WP.skip ?_
    refine QP.next ?_
    refine WP.pick [0, 1] ?_
    refine WP.seqR ?_
    refine WL.pure 0 1 [0, 1, 23] (L' := [(0, .slice Al0 l0.length cl0), (1, .int .i64 a1), (23, .slice Al0 l0.length cl0)]) (by kernel_rfl) (by decide) ?_
    by_cases hb4 : l0.length + 3 ≤ 1073741824
    case neg => rw [if_neg hb4] at h; cases h
    rw [if_pos hb4] at h
    refine WL.op (op := .call { callee := (.value (.func 23)), args := #[(.tmp 23)], argTypes := #[32] }) (ty := 32) (d := some 24) (g := none) (by kernel_rfl) (by kernel_rfl) (by kernel_rfl) (Does.call (f := 23) (args := [.slice Al0 l0.length cl0]) (by kernel_rfl) (fun W hI => (grapevinelaw0_LendBytes_calls l0 Al0 cl0 Hl0 hb4 hI))) ?_
    rintro _ _ _ ⟨AR5, cR5, CR5, rfl, HR5, rfl, rfl⟩
    refine WL.freeze (i := 0) rfl (fun G6 hG7 hle8 => ?_)
    have Hz9 := HR5.rd (by rw [← hG7]; exact hle8)
    rw [← hG7] at Hz9
    have Hm10 := Hl0.mono hle8
    have Hd11 := Hz9.head
    refine WL.restQ 2 [0, 1, 5] (L' := [(0, .slice Al0 l0.length cl0), (1, .int .i64 a1), (5, .slice AR5 l0.length cR5)]) (by kernel_rfl) ?_
    refine WP.seqR ?_
    refine WL.pure 0 2 [0, 1, 5, 26, 27] (L' := [(0, .slice Al0 l0.length cl0), (1, .int .i64 a1), (5, .slice AR5 l0.length cR5), (26, .slice AR5 l0.length cR5), (27, .int .i64 a1)]) (by kernel_rfl) (by decide) ?_
    rw [Option.bind_eq_some_iff] at h
    obtain ⟨t12, ht13, h⟩ := h
    refine WL.op (op := .call { callee := (.value (.func 24)), args := #[(.tmp 26), (.tmp 27)], argTypes := #[32, 3] }) (ty := 45) (d := some 28) (g := none) (by kernel_rfl) (by kernel_rfl) (by kernel_rfl) (Does.call (f := 24) (args := [.slice AR5 l0.length cR5, .int .i64 a1]) (by kernel_rfl) (fun W hI => (frame_Next_calls k l0 a1 AR5 cR5 Hd11 t12 ht13 hI))) ?_
    rintro _ _ _ ⟨AR14, cR14, CR14, rfl, HR14, rfl, rfl⟩
    refine WL.restQ 3 [0, 1, 5, 6, 7, 8, 9] (L' := [(0, .slice Al0 l0.length cl0), (1, .int .i64 a1), (5, .slice AR5 l0.length cR5), (6, .int .i64 t12.1), (7, .slice AR14 t12.2.1.length cR14), (8, .int .i64 t12.2.2.1), (9, .bool t12.2.2.2)]) (by kernel_rfl) ?_
    refine WP.seqR ?_
    refine WL.pure 0 2 [0, 5, 6, 7, 8, 9, 34, 35] (L' := [(0, .slice Al0 l0.length cl0), (5, .slice AR5 l0.length cR5), (6, .int .i64 t12.1), (7, .slice AR14 t12.2.1.length cR14), (8, .int .i64 t12.2.2.1), (9, .bool t12.2.2.2), (34, .slice Al0 l0.length cl0), (35, .int .i64 a1)]) (by kernel_rfl) (by decide) ?_
    rw [Option.bind_eq_some_iff] at h
    obtain ⟨t15, ht16, h⟩ := h
    refine WL.op (op := .call { callee := (.value (.func 25)), args := #[(.tmp 34), (.tmp 35)], argTypes := #[32, 3] }) (ty := 45) (d := some 36) (g := none) (by kernel_rfl) (by kernel_rfl) (by kernel_rfl) (Does.call (f := 25) (args := [.slice Al0 l0.length cl0, .int .i64 a1]) (by kernel_rfl) (fun W hI => (grapevineref6_Next_calls k l0 a1 Al0 cl0 Hm10 t15 ht16 hI))) ?_
    rintro _ _ _ ⟨AR17, cR17, CR17, rfl, HR17, rfl, rfl⟩
    refine WL.restQ 3 [0, 5, 6, 7, 8, 9, 10, 11, 12, 13] (L' := [(0, .slice Al0 l0.length cl0), (5, .slice AR5 l0.length cR5), (6, .int .i64 t12.1), (7, .slice AR14 t12.2.1.length cR14), (8, .int .i64 t12.2.2.1), (9, .bool t12.2.2.2), (10, .int .i64 t15.1), (11, .slice AR17 t15.2.1.length cR17), (12, .int .i64 t15.2.2.1), (13, .bool t15.2.2.2)]) (by kernel_rfl) ?_
    refine WP.seqR ?_
    refine WL.pure 0 1 [0, 5, 6, 7, 8, 9, 10, 11, 12, 13, 42] (L' := [(0, .slice Al0 l0.length cl0), (5, .slice AR5 l0.length cR5), (6, .int .i64 t12.1), (7, .slice AR14 t12.2.1.length cR14), (8, .int .i64 t12.2.2.1), (9, .bool t12.2.2.2), (10, .int .i64 t15.1), (11, .slice AR17 t15.2.1.length cR17), (12, .int .i64 t15.2.2.1), (13, .bool t15.2.2.2), (42, .slice AR5 l0.length cR5)]) (by kernel_rfl) (by decide) ?_
    rw [Option.bind_eq_some_iff] at h
    obtain ⟨t18, ht19, h⟩ := h
    refine WL.op (op := .call { callee := (.value (.func 26)), args := #[(.tmp 42)], argTypes := #[32] }) (ty := 47) (d := some 43) (g := none) (by kernel_rfl) (by kernel_rfl) (by kernel_rfl) (Does.call (f := 26) (args := [.slice AR5 l0.length cR5]) (by kernel_rfl) (fun W hI => (frame_Count_calls k l0 AR5 cR5 Hd11 t18 ht19 hI))) ?_
    rintro _ _ _ ⟨rfl, rfl, rfl⟩
    refine WL.restQ 2 [0, 5, 6, 7, 8, 9, 10, 11, 12, 13, 14, 15] (L' := [(0, .slice Al0 l0.length cl0), (5, .slice AR5 l0.length cR5), (6, .int .i64 t12.1), (7, .slice AR14 t12.2.1.length cR14), (8, .int .i64 t12.2.2.1), (9, .bool t12.2.2.2), (10, .int .i64 t15.1), (11, .slice AR17 t15.2.1.length cR17), (12, .int .i64 t15.2.2.1), (13, .bool t15.2.2.2), (14, .int .i64 t18.1), (15, .int .i64 t18.2)]) (by kernel_rfl) ?_
    refine WP.seqR ?_
    refine WL.pure 0 1 [0, 5, 6, 7, 8, 9, 10, 11, 12, 13, 14, 15, 47] (L' := [(0, .slice Al0 l0.length cl0), (5, .slice AR5 l0.length cR5), (6, .int .i64 t12.1), (7, .slice AR14 t12.2.1.length cR14), (8, .int .i64 t12.2.2.1), (9, .bool t12.2.2.2), (10, .int .i64 t15.1), (11, .slice AR17 t15.2.1.length cR17), (12, .int .i64 t15.2.2.1), (13, .bool t15.2.2.2), (14, .int .i64 t18.1), (15, .int .i64 t18.2), (47, .slice Al0 l0.length cl0)]) (by kernel_rfl) (by decide) ?_
    rw [Option.bind_eq_some_iff] at h
    obtain ⟨t20, ht21, h⟩ := h
    refine WL.op (op := .call { callee := (.value (.func 27)), args := #[(.tmp 47)], argTypes := #[32] }) (ty := 47) (d := some 48) (g := none) (by kernel_rfl) (by kernel_rfl) (by kernel_rfl) (Does.call (f := 27) (args := [.slice Al0 l0.length cl0]) (by kernel_rfl) (fun W hI => (grapevineref6_Count_calls k l0 Al0 cl0 Hm10 t20 ht21 hI))) ?_
    rintro _ _ _ ⟨rfl, rfl, rfl⟩
    refine WL.restQ 2 [0, 5, 6, 7, 8, 9, 10, 11, 12, 13, 14, 15, 16, 17] (L' := [(0, .slice Al0 l0.length cl0), (5, .slice AR5 l0.length cR5), (6, .int .i64 t12.1), (7, .slice AR14 t12.2.1.length cR14), (8, .int .i64 t12.2.2.1), (9, .bool t12.2.2.2), (10, .int .i64 t15.1), (11, .slice AR17 t15.2.1.length cR17), (12, .int .i64 t15.2.2.1), (13, .bool t15.2.2.2), (14, .int .i64 t18.1), (15, .int .i64 t18.2), (16, .int .i64 t20.1), (17, .int .i64 t20.2)]) (by kernel_rfl) ?_
    rw [Option.bind_eq_some_iff] at h
    obtain ⟨os22, h, hk23⟩ := h
    refine WP.cut (fun L' G' Γ' => ∃ s22 : Bool, s22 = os22 ∧ L' = [(0, .slice Al0 l0.length cl0), (5, .slice AR5 l0.length cR5), (7, .slice AR14 t12.2.1.length cR14), (18, .bool s22)] ∧ G6 = G' ∧ CR17 :: CR14 :: [] :: Γ = Γ') ?_ ?_
    · clear hk23
      refine WP.region ?_
      refine WL.pure 0 4 [0, 5, 7, 8, 9, 11, 12, 13, 14, 15, 16, 17, 54] (L' := [(0, .slice Al0 l0.length cl0), (5, .slice AR5 l0.length cR5), (7, .slice AR14 t12.2.1.length cR14), (8, .int .i64 t12.2.2.1), (9, .bool t12.2.2.2), (11, .slice AR17 t15.2.1.length cR17), (12, .int .i64 t15.2.2.1), (13, .bool t15.2.2.2), (14, .int .i64 t18.1), (15, .int .i64 t18.2), (16, .int .i64 t20.1), (17, .int .i64 t20.2), (54, .bool (t12.1 == t15.1))]) (by kernel_rfl) (by decide) ?_
      refine WL.split 54 (b := (t12.1 == t15.1)) (by kernel_rfl) (fun hc => ?_) (fun hc => ?_)
      · replace hc := eq_of_beq hc
        rw [if_pos hc] at h
        have hc24 := hc
        clear hc
        refine WL.pure 4 6 [0, 5, 7, 8, 9, 12, 13, 14, 15, 16, 17, 54, 55, 56] (L' := [(0, .slice Al0 l0.length cl0), (5, .slice AR5 l0.length cR5), (7, .slice AR14 t12.2.1.length cR14), (8, .int .i64 t12.2.2.1), (9, .bool t12.2.2.2), (12, .int .i64 t15.2.2.1), (13, .bool t15.2.2.2), (14, .int .i64 t18.1), (15, .int .i64 t18.2), (16, .int .i64 t20.1), (17, .int .i64 t20.2), (54, .bool true), (55, .slice AR14 t12.2.1.length cR14), (56, .slice AR17 t15.2.1.length cR17)]) (by kernel_rfl) (by decide) ?_
        rw [Option.bind_eq_some_iff] at h
        obtain ⟨t25, ht26, h⟩ := h
        refine WL.op (op := .call { callee := (.value (.func 21)), args := #[(.tmp 55), (.tmp 56)], argTypes := #[32, 32] }) (ty := 4) (d := some 57) (g := some (3, true)) (by kernel_rfl) (by kernel_rfl) (by kernel_rfl) (Does.call (Φ := fun v' G' Γ' => v' = .bool t25 ∧ G6 = G' ∧ CR17 :: CR14 :: [] :: Γ = Γ') (f := 21) (args := [.slice AR14 t12.2.1.length cR14, .slice AR17 t15.2.1.length cR17]) (by kernel_rfl) (fun W hI => Calls.lend (i := 1) rfl (Ow.nodup HR14) hI (fun _ e l27 hI => by subst e; exact Calls.lend (i := 0) rfl (Ow.nodup (HR17.mono l27)) hI (fun _ e l28 hI => by subst e; exact (grapevinelaw0_SameBytes_calls k t12.2.1 t15.2.1 AR14 cR14 ((HR14.rd l27).mono l28) AR17 cR17 ((HR17.mono l27).rd l28) t25 ht26 hI))))) ?_
        rintro _ _ _ ⟨rfl, rfl, rfl⟩
        refine WL.pure 7 9 [0, 5, 7, 8, 9, 12, 13, 14, 15, 16, 17, 59] (L' := [(0, .slice Al0 l0.length cl0), (5, .slice AR5 l0.length cR5), (7, .slice AR14 t12.2.1.length cR14), (8, .int .i64 t12.2.2.1), (9, .bool t12.2.2.2), (12, .int .i64 t15.2.2.1), (13, .bool t15.2.2.2), (14, .int .i64 t18.1), (15, .int .i64 t18.2), (16, .int .i64 t20.1), (17, .int .i64 t20.2), (59, .bool t25)]) (by kernel_rfl) (by decide) ?_
        refine WL.split 59 (b := t25) (by kernel_rfl) (fun hc => ?_) (fun hc => ?_)
        · replace hc := hc
          rw [if_pos hc] at h
          have hc29 := hc
          clear hc
          refine WL.pure 9 14 [0, 5, 7, 9, 13, 14, 15, 16, 17, 64] (L' := [(0, .slice Al0 l0.length cl0), (5, .slice AR5 l0.length cR5), (7, .slice AR14 t12.2.1.length cR14), (9, .bool t12.2.2.2), (13, .bool t15.2.2.2), (14, .int .i64 t18.1), (15, .int .i64 t18.2), (16, .int .i64 t20.1), (17, .int .i64 t20.2), (64, .bool (t12.2.2.1 == t15.2.2.1))]) (by kernel_rfl) (by decide) ?_
          refine WL.split 64 (b := (t12.2.2.1 == t15.2.2.1)) (by kernel_rfl) (fun hc => ?_) (fun hc => ?_)
          · replace hc := eq_of_beq hc
            rw [if_pos hc] at h
            have hc30 := hc
            clear hc
            refine WL.pure 14 19 [0, 5, 7, 14, 15, 16, 17, 69] (L' := [(0, .slice Al0 l0.length cl0), (5, .slice AR5 l0.length cR5), (7, .slice AR14 t12.2.1.length cR14), (14, .int .i64 t18.1), (15, .int .i64 t18.2), (16, .int .i64 t20.1), (17, .int .i64 t20.2), (69, .bool (t12.2.2.2 == t15.2.2.2))]) (by kernel_rfl) (by decide) ?_
            refine WL.split 69 (b := (t12.2.2.2 == t15.2.2.2)) (by kernel_rfl) (fun hc => ?_) (fun hc => ?_)
            · replace hc := hc
              rw [if_pos hc] at h
              have hc31 := hc
              clear hc
              refine WL.pure 19 24 [0, 5, 7, 15, 17, 74] (L' := [(0, .slice Al0 l0.length cl0), (5, .slice AR5 l0.length cR5), (7, .slice AR14 t12.2.1.length cR14), (15, .int .i64 t18.2), (17, .int .i64 t20.2), (74, .bool (t18.1 == t20.1))]) (by kernel_rfl) (by decide) ?_
              refine WL.split 74 (b := (t18.1 == t20.1)) (by kernel_rfl) (fun hc => ?_) (fun hc => ?_)
              · replace hc := eq_of_beq hc
                rw [if_pos hc] at h
                have hc32 := hc
                clear hc
                refine WL.pure 24 29 [0, 5, 7, 79] (L' := [(0, .slice Al0 l0.length cl0), (5, .slice AR5 l0.length cR5), (7, .slice AR14 t12.2.1.length cR14), (79, .bool (t18.2 == t20.2))]) (by kernel_rfl) (by decide) ?_
                refine WL.split 79 (b := (t18.2 == t20.2)) (by kernel_rfl) (fun hc => ?_) (fun hc => ?_)
                · replace hc := eq_of_beq hc
                  rw [if_pos hc] at h
                  have hc33 := hc
                  clear hc
                  refine WL.pure 29 31 [0, 5, 7, 79, 80, 81] (L' := [(0, .slice Al0 l0.length cl0), (5, .slice AR5 l0.length cR5), (7, .slice AR14 t12.2.1.length cR14), (79, .bool true), (80, .slice AR5 l0.length cR5), (81, .slice Al0 l0.length cl0)]) (by kernel_rfl) (by decide) ?_
                  rw [Option.bind_eq_some_iff] at h
                  obtain ⟨t34, ht35, h⟩ := h
                  refine WL.op (op := .call { callee := (.value (.func 28)), args := #[(.tmp 80), (.tmp 81)], argTypes := #[32, 32] }) (ty := 4) (d := some 82) (g := some (28, true)) (by kernel_rfl) (by kernel_rfl) (by kernel_rfl) (Does.call (f := 28) (args := [.slice AR5 l0.length cR5, .slice Al0 l0.length cl0]) (by kernel_rfl) (fun W hI => (grapevinelaw0_KeptBytes_calls k l0 l0 AR5 cR5 Hd11 Hz9 Al0 cl0 Hm10 t34 ht35 hI))) ?_
                  rintro _ _ _ ⟨rfl, rfl, rfl⟩
                  refine WL.rest 32 [0, 5, 7, 18] (L' := [(0, .slice Al0 l0.length cl0), (5, .slice AR5 l0.length cR5), (7, .slice AR14 t12.2.1.length cR14), (18, .bool t34)]) (by kernel_rfl) ?_
                  refine QP.pick [0, 5, 7, 18] ?_
                  exact QP.meet ⟨_, Option.some.inj h, rfl, rfl, rfl⟩
                · replace hc := ne_of_beq_false hc
                  rw [if_neg hc] at h
                  have hc33 := hc
                  clear hc
                  refine WL.rest 29 [0, 5, 7, 18] (L' := [(0, .slice Al0 l0.length cl0), (5, .slice AR5 l0.length cR5), (7, .slice AR14 t12.2.1.length cR14), (18, .bool false)]) (by kernel_rfl) ?_
                  refine QP.pick [0, 5, 7, 18] ?_
                  exact QP.meet ⟨_, Option.some.inj h, rfl, rfl, rfl⟩
              · replace hc := ne_of_beq_false hc
                rw [if_neg hc] at h
                have hc32 := hc
                clear hc
                refine WL.rest 24 [0, 5, 7, 18] (L' := [(0, .slice Al0 l0.length cl0), (5, .slice AR5 l0.length cR5), (7, .slice AR14 t12.2.1.length cR14), (18, .bool false)]) (by kernel_rfl) ?_
                refine QP.pick [0, 5, 7, 18] ?_
                exact QP.meet ⟨_, Option.some.inj h, rfl, rfl, rfl⟩
            · replace hc := (Bool.eq_false_iff.1 hc)
              rw [if_neg hc] at h
              have hc31 := hc
              clear hc
              refine WL.rest 19 [0, 5, 7, 18] (L' := [(0, .slice Al0 l0.length cl0), (5, .slice AR5 l0.length cR5), (7, .slice AR14 t12.2.1.length cR14), (18, .bool false)]) (by kernel_rfl) ?_
              refine QP.pick [0, 5, 7, 18] ?_
              exact QP.meet ⟨_, Option.some.inj h, rfl, rfl, rfl⟩
          · replace hc := ne_of_beq_false hc
            rw [if_neg hc] at h
            have hc30 := hc
            clear hc
            refine WL.rest 14 [0, 5, 7, 18] (L' := [(0, .slice Al0 l0.length cl0), (5, .slice AR5 l0.length cR5), (7, .slice AR14 t12.2.1.length cR14), (18, .bool false)]) (by kernel_rfl) ?_
            refine QP.pick [0, 5, 7, 18] ?_
            exact QP.meet ⟨_, Option.some.inj h, rfl, rfl, rfl⟩
        · replace hc := (Bool.eq_false_iff.1 hc)
          rw [if_neg hc] at h
          have hc29 := hc
          clear hc
          refine WL.rest 9 [0, 5, 7, 18] (L' := [(0, .slice Al0 l0.length cl0), (5, .slice AR5 l0.length cR5), (7, .slice AR14 t12.2.1.length cR14), (18, .bool false)]) (by kernel_rfl) ?_
          refine QP.pick [0, 5, 7, 18] ?_
          exact QP.meet ⟨_, Option.some.inj h, rfl, rfl, rfl⟩
      · replace hc := ne_of_beq_false hc
        rw [if_neg hc] at h
        have hc24 := hc
        clear hc
        refine WL.rest 4 [0, 5, 7, 18] (L' := [(0, .slice Al0 l0.length cl0), (5, .slice AR5 l0.length cR5), (7, .slice AR14 t12.2.1.length cR14), (18, .bool false)]) (by kernel_rfl) ?_
        refine QP.pick [0, 5, 7, 18] ?_
        exact QP.meet ⟨_, Option.some.inj h, rfl, rfl, rfl⟩
    · rintro _ _ _ ⟨s22, rfl, rfl, rfl, rfl⟩
      clear h
      replace h := hk23
      refine WP.seqR ?_
      refine WL.pure 0 1 [0, 5, 18, 84] (L' := [(0, .slice Al0 l0.length cl0), (5, .slice AR5 l0.length cR5), (18, .bool s22), (84, .slice AR14 t12.2.1.length cR14)]) (by kernel_rfl) (by decide) ?_
      rw [Option.bind_eq_some_iff] at h
      obtain ⟨t36, ht37, h⟩ := h
      refine WL.op (op := .call { callee := (.value (.func 29)), args := #[(.tmp 84)], argTypes := #[32] }) (ty := 0) (d := some 85) (g := none) (by kernel_rfl) (by kernel_rfl) (by kernel_rfl) (Does.callN (i := 1) rfl (f := 29) (args := [.slice AR14 t12.2.1.length cR14]) (by kernel_rfl) (fun W hI => (grapevinelaw0_OverBytes_calls k t12.2.1 AR14 cR14 CR14 HR14 t36 ht37 hI)) (by rintro _ _ _ ⟨_, rfl, rfl⟩; exact ⟨[], rfl⟩)) ?_
      rintro _ _ _ ⟨_, ⟨rfl, rfl, hE⟩, rfl⟩; obtain rfl := app_inj (a := []) hE; clear hE
      refine WL.restQ 2 [0, 5, 18] (L' := [(0, .slice Al0 l0.length cl0), (5, .slice AR5 l0.length cR5), (18, .bool s22)]) (by kernel_rfl) ?_
      rw [Option.bind_eq_some_iff] at h
      obtain ⟨os38, h, hk39⟩ := h
      refine WP.cut (fun L' G' Γ' => ∃ s38 : Bool, s38 = os38 ∧ L' = [(4, .bool s38)] ∧ G6 = G' ∧ CR17 :: [] :: Γ = Γ') ?_ ?_
      · clear hk39
        refine WP.region ?_
        refine WL.pure 0 2 [0, 5, 87] (L' := [(0, .slice Al0 l0.length cl0), (5, .slice AR5 l0.length cR5), (87, .bool s22)]) (by kernel_rfl) (by decide) ?_
        refine WL.split 87 (b := s22) (by kernel_rfl) (fun hc => ?_) (fun hc => ?_)
        · replace hc := hc
          rw [if_pos hc] at h
          have hc40 := hc
          clear hc
          refine WL.pure 2 4 [87, 88, 89] (L' := [(87, .bool true), (88, .slice AR5 l0.length cR5), (89, .slice Al0 l0.length cl0)]) (by kernel_rfl) (by decide) ?_
          rw [Option.bind_eq_some_iff] at h
          obtain ⟨t41, ht42, h⟩ := h
          refine WL.op (op := .call { callee := (.value (.func 28)), args := #[(.tmp 88), (.tmp 89)], argTypes := #[32, 32] }) (ty := 4) (d := some 90) (g := some (1, true)) (by kernel_rfl) (by kernel_rfl) (by kernel_rfl) (Does.call (f := 28) (args := [.slice AR5 l0.length cR5, .slice Al0 l0.length cl0]) (by kernel_rfl) (fun W hI => (grapevinelaw0_KeptBytes_calls k l0 l0 AR5 cR5 Hd11 Hz9 Al0 cl0 Hm10 t41 ht42 hI))) ?_
          rintro _ _ _ ⟨rfl, rfl, rfl⟩
          refine WL.pure 5 7 [92] (L' := [(92, .bool t41)]) (by kernel_rfl) (by decide) ?_
          refine WL.split 92 (b := t41) (by kernel_rfl) (fun hc => ?_) (fun hc => ?_)
          · replace hc := hc
            rw [if_pos hc] at h
            have hc43 := hc
            clear hc
            rw [Option.bind_eq_some_iff] at h
            obtain ⟨t44, ht45, h⟩ := h
            refine WL.op (op := .call { callee := (.value (.func 18)), args := #[], argTypes := #[] }) (ty := 4) (d := some 93) (g := some (6, true)) (by kernel_rfl) (by kernel_rfl) (by kernel_rfl) (Does.call (f := 18) (args := []) (by kernel_rfl) (fun W hI => (grapevinelaw6_awake_calls k   t44 ht45 hI))) ?_
            rintro _ _ _ ⟨rfl, rfl, rfl⟩
            refine WL.rest 8 [4] (L' := [(4, .bool t44)]) (by kernel_rfl) ?_
            refine QP.pick [4] ?_
            exact QP.meet ⟨_, Option.some.inj h, rfl, rfl, rfl⟩
          · replace hc := (Bool.eq_false_iff.1 hc)
            rw [if_neg hc] at h
            have hc43 := hc
            clear hc
            refine WL.rest 7 [4] (L' := [(4, .bool false)]) (by kernel_rfl) ?_
            refine QP.pick [4] ?_
            exact QP.meet ⟨_, Option.some.inj h, rfl, rfl, rfl⟩
        · replace hc := (Bool.eq_false_iff.1 hc)
          rw [if_neg hc] at h
          have hc40 := hc
          clear hc
          refine WL.rest 2 [4] (L' := [(4, .bool false)]) (by kernel_rfl) ?_
          refine QP.pick [4] ?_
          exact QP.meet ⟨_, Option.some.inj h, rfl, rfl, rfl⟩
      · rintro _ _ _ ⟨s38, rfl, rfl, rfl, rfl⟩
        clear h
        replace h := hk39
        refine WP.ret ?_
        obtain rfl := Option.some.inj h
        refine QP.dropAt 1 ?_
        refine QP.dropAt 0 ?_
        refine QP.lower hle8 ?_
        exact QP.returned [4] [.bool s38] _ (by kernel_rfl) (by kernel_rfl) (by kernel_rfl) (fun W hI => ⟨_, _, _, rfl, ⟨rfl, rfl, rfl⟩, hI⟩)
/-- The plain law. -/
def FrameFinds_Pure : Prop := ∀ (l0 : List Int) (a1 : Int), (l0.length ≤ maxLen ∧ ∀ z0 ∈ l0, (Lit.int .u8 z0).wf = true) → (Lit.int .i64 a1).wf = true → ∃ k, grapevinelaw6_FrameFinds k l0 a1 = some true
end Go.Proofs.Ytanogihdhnhpaaa.Gf
