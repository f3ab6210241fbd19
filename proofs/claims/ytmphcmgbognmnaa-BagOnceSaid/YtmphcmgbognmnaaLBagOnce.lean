/- Walks of Go functions: what each tells, as a plain Lean function, and that the Go code comes to it. Written by gg.py of this repo. -/
import Derived.Test.YtmphcmgbognmnaaT
import Derived.Test.YtmphcmgbognmnaaF0
namespace Go.Proofs.Ytmphcmgbognmnaa.Gf
open Go Go.Gg
set_option maxRecDepth 100000
set_option linter.unusedVariables false
set_option linter.unusedSimpArgs false

/-! ### grapevine/grapevinelaw22.BagOnce: function 15 -/
def grapevinelaw22_BagOnce_l0 (l0 : List Int) (t49 : Int × (List Int) × Bool × T89) : Nat → Int → Int → Option Int
  | 0, _, _ => none
  | k + 1, y81, y82 => (if y82 < (t49.2.1.length : Int) then (if 0 ≤ y82 ∧ y82 < (t49.2.1.length : Int) then (if 0 ≤ y82 ∧ y82 < (l0.length : Int) then (if ¬ (t49.2.1.getD y82.toNat 0) = (l0.getD y82.toNat 0) then grapevinelaw22_BagOnce_l0 l0 t49 k (IntKind.i64.wrap (y81 + 1)) (IntKind.i64.wrap (y82 + 1)) else grapevinelaw22_BagOnce_l0 l0 t49 k y81 (IntKind.i64.wrap (y82 + 1))) else none) else none) else some y81)
def grapevinelaw22_BagOnce (k : Nat) (l0 : List Int) (a1 : Int) (a2 : Int) (a3 : Int) : Option Bool := ((if (l0.length : Int) > 100 then some true else some ((l0.length : Int) == 0)).bind fun s1 => (if s1 = true then ((grapevinelaw22_awake k ).bind fun t5 => some t5) else ((bag_New 3).bind fun t9 => Option.elim t9 (some false) (fun x12 => (((bag_Bag_Put x12 a3 l0).bind fun t15 => (if ¬ t15.1 = 0 then some (true, t15.2) else ((bag_Bag_Twice_25 t15.2 0).bind fun t20 => (if ¬ t20.1 = 0 then some (true, t20.2) else ((bag_Bag_Spoil t20.2 1 a1 a2).bind fun t25 => (if (!t25.1) = true then some (true, t25.2) else ((bag_Bag_Spoil t25.2 1 a1 a2).bind fun t30 => (if t30.1 = true then some (true, t30.2) else ((bag_Bag_Twice_25 t30.2 1).bind fun t35 => (if ¬ t35.1 = 0 then some (true, t35.2) else ((bag_Bag_Spoil t35.2 2 a1 a2).bind fun t40 => some (t40.1, t40.2)))))))))))).bind fun s13 => (if s13.1 = true then some false else ((bag_Bag_Take s13.2 0).bind fun t45 => ((bag_Bag_Take t45.2.2.2 0).bind fun t49 => ((bag_Bag_Take t49.2.2.2 0).bind fun t53 => ((if (!t45.2.2.1) = true then some true else (if (!t49.2.2.1) = true then some true else (if (!t53.2.2.1) = true then some true else (if ¬ t45.1 = a3 then some true else (if ¬ t49.1 = a3 then some true else (if ¬ t53.1 = a3 then some true else ((grapevinelaw0_SameBytes k t45.2.1 l0).bind fun t65 => (if (!t65) = true then some true else ((grapevinelaw0_SameBytes k t49.2.1 t53.2.1).bind fun t71 => (if (!t71) = true then some true else some ((t49.2.1.length : Int) != (l0.length : Int)))))))))))).bind fun s57 => (if s57 = true then some false else ((grapevinelaw22_BagOnce_l0 l0 t49 k 0 0).bind fun s79 => ((bag_Bag_Take t53.2.2.2 0).bind fun t89 => ((if s79 = 1 then (if (!t89.2.2.1) = true then ((bag_Bag_Drop t89.2.2.2 0).bind fun t97 => (if (!t97.1) = true then ((bag_Bag_Twice_25 t97.2 0).bind fun t102 => (if t102.1 = 13 then ((grapevinelaw22_awake k ).bind fun t107 => some (t107, t102.2)) else some (false, t102.2))) else some (false, t97.2))) else some (false, t89.2.2.2)) else some (false, t89.2.2.2)).bind fun s93 => some s93.1))))))))))))))
set_option maxHeartbeats 4000000 in
theorem grapevinelaw22_BagOnce_calls {B : World} {G : GMap} {Γ : List Chunk} {W : World} (k : Nat) (l0 : List Int) (a1 : Int) (a2 : Int) (a3 : Int) (Al0 : Option Addr) (cl0 : Nat) (Hl0 : Rd (kInt .u8) G Al0 cl0 l0) (r : Bool) (h : grapevinelaw22_BagOnce k l0 a1 a2 a3 = some r) (hI : Inv B G (Γ) W) :
    Calls Try.prog 15 [.slice Al0 l0.length cl0, .int .i64 a1, .int .i64 a2, .int .i64 a3].toArray W (Ret B (fun v G' Γ' => v = .bool r ∧ G = G' ∧ Γ = Γ')) := by
  refine calls_WP (Γ := Γ) (G := G) (B := B) Try.func15 rfl (by kernel_rfl) ?_ hI
  clear hI
  unfold grapevinelaw22_BagOnce at h
  refine WP.seqP [0, 1, 2, 3] (L' := [(0, .slice Al0 l0.length cl0), (1, .int .i64 a1), (2, .int .i64 a2), (3, .int .i64 a3)]) (by kernel_rfl) ?_
  refine WP.seq ?_
  rw [Option.bind_eq_some_iff] at h
  obtain ⟨os1, h, hk2⟩ := h
  refine WP.cut (fun L' G' Γ' => ∃ s1 : Bool, s1 = os1 ∧ L' = [(0, .slice Al0 l0.length cl0), (1, .int .i64 a1), (2, .int .i64 a2), (3, .int .i64 a3), (31, .bool s1)] ∧ G = G' ∧ Γ = Γ') ?_ ?_
  · clear hk2
    refine WP.region ?_
    refine WL.pure 0 4 [0, 1, 2, 3, 27] (L' := [(0, .slice Al0 l0.length cl0), (1, .int .i64 a1), (2, .int .i64 a2), (3, .int .i64 a3), (27, .bool (decide ((l0.length : Int) > 100)))]) (by kernel_rfl) (by decide) ?_
    refine WL.split 27 (b := decide ((l0.length : Int) > 100)) (by kernel_rfl) (fun hc => ?_) (fun hc => ?_)
    · replace hc := of_decide_eq_true hc
      rw [if_pos hc] at h
      have hc3 := hc
      clear hc
      refine WL.rest 4 [0, 1, 2, 3, 31] (L' := [(0, .slice Al0 l0.length cl0), (1, .int .i64 a1), (2, .int .i64 a2), (3, .int .i64 a3), (31, .bool true)]) (by kernel_rfl) ?_
      refine QP.pick [0, 1, 2, 3, 31] ?_
      exact QP.meet ⟨_, Option.some.inj h, rfl, rfl, rfl⟩
    · replace hc := of_decide_eq_false hc
      rw [if_neg hc] at h
      have hc3 := hc
      clear hc
      refine WL.rest 4 [0, 1, 2, 3, 31] (L' := [(0, .slice Al0 l0.length cl0), (1, .int .i64 a1), (2, .int .i64 a2), (3, .int .i64 a3), (31, .bool ((l0.length : Int) == 0))]) (by kernel_rfl) ?_
      refine QP.pick [0, 1, 2, 3, 31] ?_
      exact QP.meet ⟨_, Option.some.inj h, rfl, rfl, rfl⟩
  · rintro _ _ _ ⟨s1, rfl, rfl, rfl, rfl⟩
    clear h
    replace h := hk2
    refine WP.cond (b := s1) (by kernel_rfl) (fun hc => ?_) (fun hc => ?_)
    · replace hc := hc
      rw [if_pos hc] at h
      have hc4 := hc
      clear hc
      refine WP.seqR ?_
      rw [Option.bind_eq_some_iff] at h
      obtain ⟨t5, ht6, h⟩ := h
      refine WL.op (op := .call { callee := (.value (.func 47)), args := #[], argTypes := #[] }) (ty := 4) (d := some 32) (g := none) (by kernel_rfl) (by kernel_rfl) (by kernel_rfl) (Does.call (f := 47) (args := []) (by kernel_rfl) (fun W hI => (grapevinelaw22_awake_calls k   t5 ht6 hI))) ?_
      rintro _ _ _ ⟨rfl, rfl, rfl⟩
      refine WL.restQ 1 [8] (L' := [(8, .bool t5)]) (by kernel_rfl) ?_
      refine WP.ret ?_
      refine QP.thenR ?_
      obtain rfl := Option.some.inj h
      exact QP.returned [8] [.bool t5] _ (by kernel_rfl) (by kernel_rfl) (by kernel_rfl) (fun W hI => ⟨_, _, _, rfl, ⟨rfl, rfl, rfl⟩, hI⟩)
    · replace hc := (Bool.eq_false_iff.1 hc)
      rw [if_neg hc] at h
      have hc4 := hc
      clear hc
      refine WP.skip ?_
      refine QP.next ?_
      refine WP.pick [0, 1, 2, 3] ?_
      refine WP.seqR ?_
      rw [Option.bind_eq_some_iff] at h
      obtain ⟨t9, ht10, h⟩ := h
      refine WL.op (op := .call { callee := (.value (.func 42)), args := #[(.const (.int .i64 3))], argTypes := #[3] }) (ty := 67) (d := some 33) (g := none) (by kernel_rfl) (by kernel_rfl) (by kernel_rfl) (Does.call (f := 42) (args := [.int .i64 3]) (by kernel_rfl) (fun W hI => (bag_New_calls 3  t9 ht10 hI))) ?_
      rintro _ _ _ (⟨hx, rfl, rfl, rfl⟩ | ⟨x12, hx, bR11, AR11, cR11, CR11, rfl, HR11, rfl, rfl⟩)
      · rw [hx] at h
        rw [Option.elim_none] at h
        clear hx
        refine WL.restQ 1 [0, 1, 2, 3, 9] (L' := [(0, .slice Al0 l0.length cl0), (1, .int .i64 a1), (2, .int .i64 a2), (3, .int .i64 a3), (9, .pointer none)]) (by kernel_rfl) ?_
        refine WP.seq ?_
        refine WP.seqP [0, 3, 9, 71] (L' := [(0, .slice Al0 l0.length cl0), (3, .int .i64 a3), (9, .pointer none), (71, .bool true)]) (by kernel_rfl) ?_
        refine WP.yes (by kernel_rfl) ?_
        refine WP.seqP [8] (L' := [(8, .bool false)]) (by kernel_rfl) ?_
        refine WP.ret ?_
        refine QP.thenR ?_
        obtain rfl := Option.some.inj h
        exact QP.returned [8] [.bool false] _ (by kernel_rfl) (by kernel_rfl) (by kernel_rfl) (fun W hI => ⟨_, _, _, rfl, ⟨rfl, rfl, rfl⟩, hI⟩)
      · rw [hx] at h
        rw [Option.elim_some] at h
        clear hx
        refine WL.restQ 1 [0, 1, 2, 3, 9] (L' := [(0, .slice Al0 l0.length cl0), (1, .int .i64 a1), (2, .int .i64 a2), (3, .int .i64 a3), (9, .pointer (some ⟨bR11, 0, none⟩))]) (by kernel_rfl) ?_
        refine WP.seq ?_
        rw [Option.bind_eq_some_iff] at h
        obtain ⟨os13, h, hk14⟩ := h
        refine WP.cut (fun L' G' Γ' => ∃ s13 : Bool × T89, s13 = os13 ∧ ∃ (As13_2_f1 : Option Addr), ∃ (cs13_2_f1 : Nat), ∃ (Cs13_2_f1 : Chunk), L' = [(0, .slice Al0 l0.length cl0), (3, .int .i64 a3), (9, .pointer (some ⟨bR11, 0, none⟩)), (71, .bool s13.1)] ∧ G = G' ∧ [(bR11, .cells #[.int .i64 s13.2.f0, .slice As13_2_f1 s13.2.f1.length cs13_2_f1] 89 (0, 0))] :: Cs13_2_f1 :: Γ = Γ' ∧ Dp d94 G As13_2_f1 cs13_2_f1 s13.2.f1 Cs13_2_f1) ?_ ?_
        · clear hk14
          refine WP.region ?_
          refine WL.pure 0 6 [0, 1, 2, 3, 9, 36, 37, 38, 39] (L' := [(0, .slice Al0 l0.length cl0), (1, .int .i64 a1), (2, .int .i64 a2), (3, .int .i64 a3), (9, .pointer (some ⟨bR11, 0, none⟩)), (36, .bool false), (37, .pointer (some ⟨bR11, 0, none⟩)), (38, .int .i64 a3), (39, .slice Al0 l0.length cl0)]) (by kernel_rfl) (by decide) ?_
          refine WL.front (i := 1) rfl ?_
          refine WL.front (i := 1) rfl ?_
          rw [Option.bind_eq_some_iff] at h
          obtain ⟨t15, ht16, h⟩ := h
          refine WL.op (op := .call { callee := (.value (.func 43)), args := #[(.tmp 37), (.tmp 38), (.tmp 39)], argTypes := #[67, 3, 70] }) (ty := 41) (d := some 40) (g := some (2, false)) (by kernel_rfl) (by kernel_rfl) (by kernel_rfl) (Does.call (f := 43) (args := [.pointer (some ⟨bR11, 0, none⟩), .int .i64 a3, .slice Al0 l0.length cl0]) (by kernel_rfl) (fun W hI => (bag_Bag_Put_calls x12 a3 l0 bR11 AR11 cR11 CR11 HR11 Al0 cl0 Hl0 t15 ht16 hI))) ?_
          rintro _ _ _ ⟨AR17p0, cR17p0, CR17p0, rfl, HR17p0, rfl, rfl⟩
          refine WL.pure 7 10 [0, 1, 2, 3, 9, 43] (L' := [(0, .slice Al0 l0.length cl0), (1, .int .i64 a1), (2, .int .i64 a2), (3, .int .i64 a3), (9, .pointer (some ⟨bR11, 0, none⟩)), (43, .bool (t15.1 != 0))]) (by kernel_rfl) (by decide) ?_
          refine WL.split 43 (b := (t15.1 != 0)) (by kernel_rfl) (fun hc => ?_) (fun hc => ?_)
          · replace hc := (bne_iff_ne.1 hc)
            rw [if_pos hc] at h
            have hc19 := hc
            clear hc
            refine WL.rest 10 [0, 3, 9, 71] (L' := [(0, .slice Al0 l0.length cl0), (3, .int .i64 a3), (9, .pointer (some ⟨bR11, 0, none⟩)), (71, .bool true)]) (by kernel_rfl) ?_
            refine QP.pick [0, 3, 9, 71] ?_
            exact QP.meet ⟨_, Option.some.inj h, AR17p0, cR17p0, CR17p0, rfl, rfl, rfl, HR17p0⟩
          · replace hc := (not_not_intro (bne_eq_false_iff_eq.1 hc))
            rw [if_neg hc] at h
            have hc19 := hc
            clear hc
            refine WL.pure 10 11 [0, 1, 2, 3, 9, 43, 44] (L' := [(0, .slice Al0 l0.length cl0), (1, .int .i64 a1), (2, .int .i64 a2), (3, .int .i64 a3), (9, .pointer (some ⟨bR11, 0, none⟩)), (43, .bool false), (44, .pointer (some ⟨bR11, 0, none⟩))]) (by kernel_rfl) (by decide) ?_
            refine WL.front (i := 1) rfl ?_
            refine WL.front (i := 1) rfl ?_
            rw [Option.bind_eq_some_iff] at h
            obtain ⟨t20, ht21, h⟩ := h
            refine WL.op (op := .call { callee := (.value (.func 49)), args := #[(.tmp 44), (.const (.int .i64 0))], argTypes := #[67, 3] }) (ty := 41) (d := some 45) (g := some (9, false)) (by kernel_rfl) (by kernel_rfl) (by kernel_rfl) (Does.call (f := 49) (args := [.pointer (some ⟨bR11, 0, none⟩), .int .i64 0]) (by kernel_rfl) (fun W hI => (bag_Bag_Twice_25_calls t15.2 0 bR11 AR17p0 cR17p0 CR17p0 HR17p0 t20 ht21 hI))) ?_
            rintro _ _ _ ⟨AR22p0, cR22p0, CR22p0, rfl, HR22p0, rfl, rfl⟩
            refine WL.pure 12 15 [0, 1, 2, 3, 9, 48] (L' := [(0, .slice Al0 l0.length cl0), (1, .int .i64 a1), (2, .int .i64 a2), (3, .int .i64 a3), (9, .pointer (some ⟨bR11, 0, none⟩)), (48, .bool (t20.1 != 0))]) (by kernel_rfl) (by decide) ?_
            refine WL.split 48 (b := (t20.1 != 0)) (by kernel_rfl) (fun hc => ?_) (fun hc => ?_)
            · replace hc := (bne_iff_ne.1 hc)
              rw [if_pos hc] at h
              have hc24 := hc
              clear hc
              refine WL.rest 15 [0, 3, 9, 71] (L' := [(0, .slice Al0 l0.length cl0), (3, .int .i64 a3), (9, .pointer (some ⟨bR11, 0, none⟩)), (71, .bool true)]) (by kernel_rfl) ?_
              refine QP.pick [0, 3, 9, 71] ?_
              exact QP.meet ⟨_, Option.some.inj h, AR22p0, cR22p0, CR22p0, rfl, rfl, rfl, HR22p0⟩
            · replace hc := (not_not_intro (bne_eq_false_iff_eq.1 hc))
              rw [if_neg hc] at h
              have hc24 := hc
              clear hc
              refine WL.pure 15 18 [0, 1, 2, 3, 9, 48, 49, 50, 51] (L' := [(0, .slice Al0 l0.length cl0), (1, .int .i64 a1), (2, .int .i64 a2), (3, .int .i64 a3), (9, .pointer (some ⟨bR11, 0, none⟩)), (48, .bool false), (49, .pointer (some ⟨bR11, 0, none⟩)), (50, .int .i64 a1), (51, .int .i64 a2)]) (by kernel_rfl) (by decide) ?_
              refine WL.front (i := 1) rfl ?_
              refine WL.front (i := 1) rfl ?_
              rw [Option.bind_eq_some_iff] at h
              obtain ⟨t25, ht26, h⟩ := h
              refine WL.op (op := .call { callee := (.value (.func 50)), args := #[(.tmp 49), (.const (.int .i64 1)), (.tmp 50), (.tmp 51)], argTypes := #[67, 3, 3, 3] }) (ty := 4) (d := some 52) (g := some (14, false)) (by kernel_rfl) (by kernel_rfl) (by kernel_rfl) (Does.call (f := 50) (args := [.pointer (some ⟨bR11, 0, none⟩), .int .i64 1, .int .i64 a1, .int .i64 a2]) (by kernel_rfl) (fun W hI => (bag_Bag_Spoil_calls t20.2 1 a1 a2 bR11 AR22p0 cR22p0 CR22p0 HR22p0 t25 ht26 hI))) ?_
              rintro _ _ _ ⟨AR27p0, cR27p0, CR27p0, rfl, HR27p0, rfl, rfl⟩
              refine WL.pure 19 22 [0, 1, 2, 3, 9, 55] (L' := [(0, .slice Al0 l0.length cl0), (1, .int .i64 a1), (2, .int .i64 a2), (3, .int .i64 a3), (9, .pointer (some ⟨bR11, 0, none⟩)), (55, .bool (!t25.1))]) (by kernel_rfl) (by decide) ?_
              refine WL.split 55 (b := (!t25.1)) (by kernel_rfl) (fun hc => ?_) (fun hc => ?_)
              · replace hc := hc
                rw [if_pos hc] at h
                have hc29 := hc
                clear hc
                refine WL.rest 22 [0, 3, 9, 71] (L' := [(0, .slice Al0 l0.length cl0), (3, .int .i64 a3), (9, .pointer (some ⟨bR11, 0, none⟩)), (71, .bool true)]) (by kernel_rfl) ?_
                refine QP.pick [0, 3, 9, 71] ?_
                exact QP.meet ⟨_, Option.some.inj h, AR27p0, cR27p0, CR27p0, rfl, rfl, rfl, HR27p0⟩
              · replace hc := (Bool.eq_false_iff.1 hc)
                rw [if_neg hc] at h
                have hc29 := hc
                clear hc
                refine WL.pure 22 25 [0, 1, 2, 3, 9, 55, 56, 57, 58] (L' := [(0, .slice Al0 l0.length cl0), (1, .int .i64 a1), (2, .int .i64 a2), (3, .int .i64 a3), (9, .pointer (some ⟨bR11, 0, none⟩)), (55, .bool false), (56, .pointer (some ⟨bR11, 0, none⟩)), (57, .int .i64 a1), (58, .int .i64 a2)]) (by kernel_rfl) (by decide) ?_
                refine WL.front (i := 1) rfl ?_
                refine WL.front (i := 1) rfl ?_
                rw [Option.bind_eq_some_iff] at h
                obtain ⟨t30, ht31, h⟩ := h
                refine WL.op (op := .call { callee := (.value (.func 50)), args := #[(.tmp 56), (.const (.int .i64 1)), (.tmp 57), (.tmp 58)], argTypes := #[67, 3, 3, 3] }) (ty := 4) (d := some 59) (g := some (21, false)) (by kernel_rfl) (by kernel_rfl) (by kernel_rfl) (Does.call (f := 50) (args := [.pointer (some ⟨bR11, 0, none⟩), .int .i64 1, .int .i64 a1, .int .i64 a2]) (by kernel_rfl) (fun W hI => (bag_Bag_Spoil_calls t25.2 1 a1 a2 bR11 AR27p0 cR27p0 CR27p0 HR27p0 t30 ht31 hI))) ?_
                rintro _ _ _ ⟨AR32p0, cR32p0, CR32p0, rfl, HR32p0, rfl, rfl⟩
                refine WL.pure 26 28 [0, 1, 2, 3, 9, 61] (L' := [(0, .slice Al0 l0.length cl0), (1, .int .i64 a1), (2, .int .i64 a2), (3, .int .i64 a3), (9, .pointer (some ⟨bR11, 0, none⟩)), (61, .bool t30.1)]) (by kernel_rfl) (by decide) ?_
                refine WL.split 61 (b := t30.1) (by kernel_rfl) (fun hc => ?_) (fun hc => ?_)
                · replace hc := hc
                  rw [if_pos hc] at h
                  have hc34 := hc
                  clear hc
                  refine WL.rest 28 [0, 3, 9, 71] (L' := [(0, .slice Al0 l0.length cl0), (3, .int .i64 a3), (9, .pointer (some ⟨bR11, 0, none⟩)), (71, .bool true)]) (by kernel_rfl) ?_
                  refine QP.pick [0, 3, 9, 71] ?_
                  exact QP.meet ⟨_, Option.some.inj h, AR32p0, cR32p0, CR32p0, rfl, rfl, rfl, HR32p0⟩
                · replace hc := (Bool.eq_false_iff.1 hc)
                  rw [if_neg hc] at h
                  have hc34 := hc
                  clear hc
                  refine WL.pure 28 29 [0, 1, 2, 3, 9, 61, 62] (L' := [(0, .slice Al0 l0.length cl0), (1, .int .i64 a1), (2, .int .i64 a2), (3, .int .i64 a3), (9, .pointer (some ⟨bR11, 0, none⟩)), (61, .bool false), (62, .pointer (some ⟨bR11, 0, none⟩))]) (by kernel_rfl) (by decide) ?_
                  refine WL.front (i := 1) rfl ?_
                  refine WL.front (i := 1) rfl ?_
                  rw [Option.bind_eq_some_iff] at h
                  obtain ⟨t35, ht36, h⟩ := h
                  refine WL.op (op := .call { callee := (.value (.func 49)), args := #[(.tmp 62), (.const (.int .i64 1))], argTypes := #[67, 3] }) (ty := 41) (d := some 63) (g := some (27, false)) (by kernel_rfl) (by kernel_rfl) (by kernel_rfl) (Does.call (f := 49) (args := [.pointer (some ⟨bR11, 0, none⟩), .int .i64 1]) (by kernel_rfl) (fun W hI => (bag_Bag_Twice_25_calls t30.2 1 bR11 AR32p0 cR32p0 CR32p0 HR32p0 t35 ht36 hI))) ?_
                  rintro _ _ _ ⟨AR37p0, cR37p0, CR37p0, rfl, HR37p0, rfl, rfl⟩
                  refine WL.pure 30 33 [0, 1, 2, 3, 9, 66] (L' := [(0, .slice Al0 l0.length cl0), (1, .int .i64 a1), (2, .int .i64 a2), (3, .int .i64 a3), (9, .pointer (some ⟨bR11, 0, none⟩)), (66, .bool (t35.1 != 0))]) (by kernel_rfl) (by decide) ?_
                  refine WL.split 66 (b := (t35.1 != 0)) (by kernel_rfl) (fun hc => ?_) (fun hc => ?_)
                  · replace hc := (bne_iff_ne.1 hc)
                    rw [if_pos hc] at h
                    have hc39 := hc
                    clear hc
                    refine WL.rest 33 [0, 3, 9, 71] (L' := [(0, .slice Al0 l0.length cl0), (3, .int .i64 a3), (9, .pointer (some ⟨bR11, 0, none⟩)), (71, .bool true)]) (by kernel_rfl) ?_
                    refine QP.pick [0, 3, 9, 71] ?_
                    exact QP.meet ⟨_, Option.some.inj h, AR37p0, cR37p0, CR37p0, rfl, rfl, rfl, HR37p0⟩
                  · replace hc := (not_not_intro (bne_eq_false_iff_eq.1 hc))
                    rw [if_neg hc] at h
                    have hc39 := hc
                    clear hc
                    refine WL.pure 33 36 [0, 3, 9, 66, 67, 68, 69] (L' := [(0, .slice Al0 l0.length cl0), (3, .int .i64 a3), (9, .pointer (some ⟨bR11, 0, none⟩)), (66, .bool false), (67, .pointer (some ⟨bR11, 0, none⟩)), (68, .int .i64 a1), (69, .int .i64 a2)]) (by kernel_rfl) (by decide) ?_
                    refine WL.front (i := 1) rfl ?_
                    refine WL.front (i := 1) rfl ?_
                    rw [Option.bind_eq_some_iff] at h
                    obtain ⟨t40, ht41, h⟩ := h
                    refine WL.op (op := .call { callee := (.value (.func 50)), args := #[(.tmp 67), (.const (.int .i64 2)), (.tmp 68), (.tmp 69)], argTypes := #[67, 3, 3, 3] }) (ty := 4) (d := some 70) (g := some (32, false)) (by kernel_rfl) (by kernel_rfl) (by kernel_rfl) (Does.call (f := 50) (args := [.pointer (some ⟨bR11, 0, none⟩), .int .i64 2, .int .i64 a1, .int .i64 a2]) (by kernel_rfl) (fun W hI => (bag_Bag_Spoil_calls t35.2 2 a1 a2 bR11 AR37p0 cR37p0 CR37p0 HR37p0 t40 ht41 hI))) ?_
                    rintro _ _ _ ⟨AR42p0, cR42p0, CR42p0, rfl, HR42p0, rfl, rfl⟩
                    refine WL.rest 37 [0, 3, 9, 71] (L' := [(0, .slice Al0 l0.length cl0), (3, .int .i64 a3), (9, .pointer (some ⟨bR11, 0, none⟩)), (71, .bool t40.1)]) (by kernel_rfl) ?_
                    refine QP.pick [0, 3, 9, 71] ?_
                    exact QP.meet ⟨_, Option.some.inj h, AR42p0, cR42p0, CR42p0, rfl, rfl, rfl, HR42p0⟩
        · rintro _ _ _ ⟨s13, rfl, As13_2_f1, cs13_2_f1, Cs13_2_f1, rfl, rfl, rfl, Hs13_2_f1⟩
          clear h
          replace h := hk14
          refine WP.cond (b := s13.1) (by kernel_rfl) (fun hc => ?_) (fun hc => ?_)
          · replace hc := hc
            rw [if_pos hc] at h
            have hc44 := hc
            clear hc
            refine WP.seqP [8] (L' := [(8, .bool false)]) (by kernel_rfl) ?_
            refine WP.dropAt 1 ?_
            refine WP.dropAt 0 ?_
            refine WP.ret ?_
            refine QP.thenR ?_
            obtain rfl := Option.some.inj h
            exact QP.returned [8] [.bool false] _ (by kernel_rfl) (by kernel_rfl) (by kernel_rfl) (fun W hI => ⟨_, _, _, rfl, ⟨rfl, rfl, rfl⟩, hI⟩)
          · replace hc := (Bool.eq_false_iff.1 hc)
            rw [if_neg hc] at h
            have hc44 := hc
            clear hc
            refine WP.skip ?_
            refine QP.next ?_
            refine WP.pick [0, 3, 9] ?_
            refine WP.seqR ?_
            refine WL.pure 0 1 [0, 3, 9, 73] (L' := [(0, .slice Al0 l0.length cl0), (3, .int .i64 a3), (9, .pointer (some ⟨bR11, 0, none⟩)), (73, .pointer (some ⟨bR11, 0, none⟩))]) (by kernel_rfl) (by decide) ?_
            refine WL.front (i := 1) rfl ?_
            refine WL.front (i := 1) rfl ?_
            rw [Option.bind_eq_some_iff] at h
            obtain ⟨t45, ht46, h⟩ := h
            refine WL.op (op := .call { callee := (.value (.func 44)), args := #[(.tmp 73), (.const (.int .i64 0))], argTypes := #[67, 3] }) (ty := 71) (d := some 74) (g := none) (by kernel_rfl) (by kernel_rfl) (by kernel_rfl) (Does.call (f := 44) (args := [.pointer (some ⟨bR11, 0, none⟩), .int .i64 0]) (by kernel_rfl) (fun W hI => (bag_Bag_Take_calls s13.2 0 bR11 As13_2_f1 cs13_2_f1 Cs13_2_f1 Hs13_2_f1 t45 ht46 hI))) ?_
            rintro _ _ _ ⟨AR471, cR471, CR471, AR47p0, cR47p0, CR47p0, rfl, HR471, HR47p0, rfl, rfl⟩
            refine WL.restQ 2 [0, 3, 9, 10, 11, 12] (L' := [(0, .slice Al0 l0.length cl0), (3, .int .i64 a3), (9, .pointer (some ⟨bR11, 0, none⟩)), (10, .int .i64 t45.1), (11, .slice AR471 t45.2.1.length cR471), (12, .bool t45.2.2.1)]) (by kernel_rfl) ?_
            refine WP.seqR ?_
            refine WL.pure 0 1 [0, 3, 9, 10, 11, 12, 79] (L' := [(0, .slice Al0 l0.length cl0), (3, .int .i64 a3), (9, .pointer (some ⟨bR11, 0, none⟩)), (10, .int .i64 t45.1), (11, .slice AR471 t45.2.1.length cR471), (12, .bool t45.2.2.1), (79, .pointer (some ⟨bR11, 0, none⟩))]) (by kernel_rfl) (by decide) ?_
            refine WL.front (i := 2) rfl ?_
            refine WL.front (i := 2) rfl ?_
            rw [Option.bind_eq_some_iff] at h
            obtain ⟨t49, ht50, h⟩ := h
            refine WL.op (op := .call { callee := (.value (.func 44)), args := #[(.tmp 79), (.const (.int .i64 0))], argTypes := #[67, 3] }) (ty := 71) (d := some 80) (g := none) (by kernel_rfl) (by kernel_rfl) (by kernel_rfl) (Does.call (f := 44) (args := [.pointer (some ⟨bR11, 0, none⟩), .int .i64 0]) (by kernel_rfl) (fun W hI => (bag_Bag_Take_calls t45.2.2.2 0 bR11 AR47p0 cR47p0 CR47p0 HR47p0 t49 ht50 hI))) ?_
            rintro _ _ _ ⟨AR511, cR511, CR511, AR51p0, cR51p0, CR51p0, rfl, HR511, HR51p0, rfl, rfl⟩
            refine WL.restQ 2 [0, 3, 9, 10, 11, 12, 13, 14, 15] (L' := [(0, .slice Al0 l0.length cl0), (3, .int .i64 a3), (9, .pointer (some ⟨bR11, 0, none⟩)), (10, .int .i64 t45.1), (11, .slice AR471 t45.2.1.length cR471), (12, .bool t45.2.2.1), (13, .int .i64 t49.1), (14, .slice AR511 t49.2.1.length cR511), (15, .bool t49.2.2.1)]) (by kernel_rfl) ?_
            refine WP.seqR ?_
            refine WL.pure 0 1 [0, 3, 9, 10, 11, 12, 13, 14, 15, 85] (L' := [(0, .slice Al0 l0.length cl0), (3, .int .i64 a3), (9, .pointer (some ⟨bR11, 0, none⟩)), (10, .int .i64 t45.1), (11, .slice AR471 t45.2.1.length cR471), (12, .bool t45.2.2.1), (13, .int .i64 t49.1), (14, .slice AR511 t49.2.1.length cR511), (15, .bool t49.2.2.1), (85, .pointer (some ⟨bR11, 0, none⟩))]) (by kernel_rfl) (by decide) ?_
            refine WL.front (i := 2) rfl ?_
            refine WL.front (i := 2) rfl ?_
            rw [Option.bind_eq_some_iff] at h
            obtain ⟨t53, ht54, h⟩ := h
            refine WL.op (op := .call { callee := (.value (.func 44)), args := #[(.tmp 85), (.const (.int .i64 0))], argTypes := #[67, 3] }) (ty := 71) (d := some 86) (g := none) (by kernel_rfl) (by kernel_rfl) (by kernel_rfl) (Does.call (f := 44) (args := [.pointer (some ⟨bR11, 0, none⟩), .int .i64 0]) (by kernel_rfl) (fun W hI => (bag_Bag_Take_calls t49.2.2.2 0 bR11 AR51p0 cR51p0 CR51p0 HR51p0 t53 ht54 hI))) ?_
            rintro _ _ _ ⟨AR551, cR551, CR551, AR55p0, cR55p0, CR55p0, rfl, HR551, HR55p0, rfl, rfl⟩
            refine WL.restQ 2 [0, 3, 9, 10, 11, 12, 13, 14, 15, 16, 17, 18] (L' := [(0, .slice Al0 l0.length cl0), (3, .int .i64 a3), (9, .pointer (some ⟨bR11, 0, none⟩)), (10, .int .i64 t45.1), (11, .slice AR471 t45.2.1.length cR471), (12, .bool t45.2.2.1), (13, .int .i64 t49.1), (14, .slice AR511 t49.2.1.length cR511), (15, .bool t49.2.2.1), (16, .int .i64 t53.1), (17, .slice AR551 t53.2.1.length cR551), (18, .bool t53.2.2.1)]) (by kernel_rfl) ?_
            refine WP.seq ?_
            rw [Option.bind_eq_some_iff] at h
            obtain ⟨os57, h, hk58⟩ := h
            refine WP.cut (fun L' G' Γ' => ∃ s57 : Bool, s57 = os57 ∧ L' = [(0, .slice Al0 l0.length cl0), (9, .pointer (some ⟨bR11, 0, none⟩)), (14, .slice AR511 t49.2.1.length cR511), (133, .bool s57)] ∧ G = G' ∧ [(bR11, .cells #[.int .i64 t53.2.2.2.f0, .slice AR55p0 t53.2.2.2.f1.length cR55p0] 89 (0, 0))] :: CR55p0 :: CR511 :: Γ = Γ') ?_ ?_
            · clear hk58
              refine WP.region ?_
              refine WL.pure 0 3 [0, 3, 9, 10, 11, 13, 14, 15, 16, 17, 18, 92] (L' := [(0, .slice Al0 l0.length cl0), (3, .int .i64 a3), (9, .pointer (some ⟨bR11, 0, none⟩)), (10, .int .i64 t45.1), (11, .slice AR471 t45.2.1.length cR471), (13, .int .i64 t49.1), (14, .slice AR511 t49.2.1.length cR511), (15, .bool t49.2.2.1), (16, .int .i64 t53.1), (17, .slice AR551 t53.2.1.length cR551), (18, .bool t53.2.2.1), (92, .bool (!t45.2.2.1))]) (by kernel_rfl) (by decide) ?_
              refine WL.split 92 (b := (!t45.2.2.1)) (by kernel_rfl) (fun hc => ?_) (fun hc => ?_)
              · replace hc := hc
                rw [if_pos hc] at h
                have hc59 := hc
                clear hc
                refine WL.rest 3 [0, 9, 14, 133] (L' := [(0, .slice Al0 l0.length cl0), (9, .pointer (some ⟨bR11, 0, none⟩)), (14, .slice AR511 t49.2.1.length cR511), (133, .bool true)]) (by kernel_rfl) ?_
                refine QP.dropAt 4 ?_
                refine QP.dropAt 0 ?_
                refine QP.pick [0, 9, 14, 133] ?_
                exact QP.meet ⟨_, Option.some.inj h, rfl, rfl, rfl⟩
              · replace hc := (Bool.eq_false_iff.1 hc)
                rw [if_neg hc] at h
                have hc59 := hc
                clear hc
                refine WL.pure 3 7 [0, 3, 9, 10, 11, 13, 14, 16, 17, 18, 96] (L' := [(0, .slice Al0 l0.length cl0), (3, .int .i64 a3), (9, .pointer (some ⟨bR11, 0, none⟩)), (10, .int .i64 t45.1), (11, .slice AR471 t45.2.1.length cR471), (13, .int .i64 t49.1), (14, .slice AR511 t49.2.1.length cR511), (16, .int .i64 t53.1), (17, .slice AR551 t53.2.1.length cR551), (18, .bool t53.2.2.1), (96, .bool (!t49.2.2.1))]) (by kernel_rfl) (by decide) ?_
                refine WL.split 96 (b := (!t49.2.2.1)) (by kernel_rfl) (fun hc => ?_) (fun hc => ?_)
                · replace hc := hc
                  rw [if_pos hc] at h
                  have hc60 := hc
                  clear hc
                  refine WL.rest 7 [0, 9, 14, 133] (L' := [(0, .slice Al0 l0.length cl0), (9, .pointer (some ⟨bR11, 0, none⟩)), (14, .slice AR511 t49.2.1.length cR511), (133, .bool true)]) (by kernel_rfl) ?_
                  refine QP.dropAt 4 ?_
                  refine QP.dropAt 0 ?_
                  refine QP.pick [0, 9, 14, 133] ?_
                  exact QP.meet ⟨_, Option.some.inj h, rfl, rfl, rfl⟩
                · replace hc := (Bool.eq_false_iff.1 hc)
                  rw [if_neg hc] at h
                  have hc60 := hc
                  clear hc
                  refine WL.pure 7 11 [0, 3, 9, 10, 11, 13, 14, 16, 17, 100] (L' := [(0, .slice Al0 l0.length cl0), (3, .int .i64 a3), (9, .pointer (some ⟨bR11, 0, none⟩)), (10, .int .i64 t45.1), (11, .slice AR471 t45.2.1.length cR471), (13, .int .i64 t49.1), (14, .slice AR511 t49.2.1.length cR511), (16, .int .i64 t53.1), (17, .slice AR551 t53.2.1.length cR551), (100, .bool (!t53.2.2.1))]) (by kernel_rfl) (by decide) ?_
                  refine WL.split 100 (b := (!t53.2.2.1)) (by kernel_rfl) (fun hc => ?_) (fun hc => ?_)
                  · replace hc := hc
                    rw [if_pos hc] at h
                    have hc61 := hc
                    clear hc
                    refine WL.rest 11 [0, 9, 14, 133] (L' := [(0, .slice Al0 l0.length cl0), (9, .pointer (some ⟨bR11, 0, none⟩)), (14, .slice AR511 t49.2.1.length cR511), (133, .bool true)]) (by kernel_rfl) ?_
                    refine QP.dropAt 4 ?_
                    refine QP.dropAt 0 ?_
                    refine QP.pick [0, 9, 14, 133] ?_
                    exact QP.meet ⟨_, Option.some.inj h, rfl, rfl, rfl⟩
                  · replace hc := (Bool.eq_false_iff.1 hc)
                    rw [if_neg hc] at h
                    have hc61 := hc
                    clear hc
                    refine WL.pure 11 16 [0, 3, 9, 11, 13, 14, 16, 17, 105] (L' := [(0, .slice Al0 l0.length cl0), (3, .int .i64 a3), (9, .pointer (some ⟨bR11, 0, none⟩)), (11, .slice AR471 t45.2.1.length cR471), (13, .int .i64 t49.1), (14, .slice AR511 t49.2.1.length cR511), (16, .int .i64 t53.1), (17, .slice AR551 t53.2.1.length cR551), (105, .bool (t45.1 != a3))]) (by kernel_rfl) (by decide) ?_
                    refine WL.split 105 (b := (t45.1 != a3)) (by kernel_rfl) (fun hc => ?_) (fun hc => ?_)
                    · replace hc := (bne_iff_ne.1 hc)
                      rw [if_pos hc] at h
                      have hc62 := hc
                      clear hc
                      refine WL.rest 16 [0, 9, 14, 133] (L' := [(0, .slice Al0 l0.length cl0), (9, .pointer (some ⟨bR11, 0, none⟩)), (14, .slice AR511 t49.2.1.length cR511), (133, .bool true)]) (by kernel_rfl) ?_
                      refine QP.dropAt 4 ?_
                      refine QP.dropAt 0 ?_
                      refine QP.pick [0, 9, 14, 133] ?_
                      exact QP.meet ⟨_, Option.some.inj h, rfl, rfl, rfl⟩
                    · replace hc := (not_not_intro (bne_eq_false_iff_eq.1 hc))
                      rw [if_neg hc] at h
                      have hc62 := hc
                      clear hc
                      refine WL.pure 16 21 [0, 3, 9, 11, 14, 16, 17, 110] (L' := [(0, .slice Al0 l0.length cl0), (3, .int .i64 a3), (9, .pointer (some ⟨bR11, 0, none⟩)), (11, .slice AR471 t45.2.1.length cR471), (14, .slice AR511 t49.2.1.length cR511), (16, .int .i64 t53.1), (17, .slice AR551 t53.2.1.length cR551), (110, .bool (t49.1 != a3))]) (by kernel_rfl) (by decide) ?_
                      refine WL.split 110 (b := (t49.1 != a3)) (by kernel_rfl) (fun hc => ?_) (fun hc => ?_)
                      · replace hc := (bne_iff_ne.1 hc)
                        rw [if_pos hc] at h
                        have hc63 := hc
                        clear hc
                        refine WL.rest 21 [0, 9, 14, 133] (L' := [(0, .slice Al0 l0.length cl0), (9, .pointer (some ⟨bR11, 0, none⟩)), (14, .slice AR511 t49.2.1.length cR511), (133, .bool true)]) (by kernel_rfl) ?_
                        refine QP.dropAt 4 ?_
                        refine QP.dropAt 0 ?_
                        refine QP.pick [0, 9, 14, 133] ?_
                        exact QP.meet ⟨_, Option.some.inj h, rfl, rfl, rfl⟩
                      · replace hc := (not_not_intro (bne_eq_false_iff_eq.1 hc))
                        rw [if_neg hc] at h
                        have hc63 := hc
                        clear hc
                        refine WL.pure 21 26 [0, 9, 11, 14, 17, 115] (L' := [(0, .slice Al0 l0.length cl0), (9, .pointer (some ⟨bR11, 0, none⟩)), (11, .slice AR471 t45.2.1.length cR471), (14, .slice AR511 t49.2.1.length cR511), (17, .slice AR551 t53.2.1.length cR551), (115, .bool (t53.1 != a3))]) (by kernel_rfl) (by decide) ?_
                        refine WL.split 115 (b := (t53.1 != a3)) (by kernel_rfl) (fun hc => ?_) (fun hc => ?_)
                        · replace hc := (bne_iff_ne.1 hc)
                          rw [if_pos hc] at h
                          have hc64 := hc
                          clear hc
                          refine WL.rest 26 [0, 9, 14, 133] (L' := [(0, .slice Al0 l0.length cl0), (9, .pointer (some ⟨bR11, 0, none⟩)), (14, .slice AR511 t49.2.1.length cR511), (133, .bool true)]) (by kernel_rfl) ?_
                          refine QP.dropAt 4 ?_
                          refine QP.dropAt 0 ?_
                          refine QP.pick [0, 9, 14, 133] ?_
                          exact QP.meet ⟨_, Option.some.inj h, rfl, rfl, rfl⟩
                        · replace hc := (not_not_intro (bne_eq_false_iff_eq.1 hc))
                          rw [if_neg hc] at h
                          have hc64 := hc
                          clear hc
                          refine WL.pure 26 28 [0, 9, 14, 17, 115, 116, 117] (L' := [(0, .slice Al0 l0.length cl0), (9, .pointer (some ⟨bR11, 0, none⟩)), (14, .slice AR511 t49.2.1.length cR511), (17, .slice AR551 t53.2.1.length cR551), (115, .bool false), (116, .slice AR471 t45.2.1.length cR471), (117, .slice Al0 l0.length cl0)]) (by kernel_rfl) (by decide) ?_
                          rw [Option.bind_eq_some_iff] at h
                          obtain ⟨t65, ht66, h⟩ := h
                          refine WL.op (op := .call { callee := (.value (.func 48)), args := #[(.tmp 116), (.tmp 117)], argTypes := #[70, 70] }) (ty := 4) (d := some 118) (g := some (25, false)) (by kernel_rfl) (by kernel_rfl) (by kernel_rfl) (Does.call (Φ := fun v' G' Γ' => v' = .bool t65 ∧ G = G' ∧ CR551 :: [(bR11, .cells #[.int .i64 t53.2.2.2.f0, .slice AR55p0 t53.2.2.2.f1.length cR55p0] 89 (0, 0))] :: CR55p0 :: CR511 :: CR471 :: Γ = Γ') (f := 48) (args := [.slice AR471 t45.2.1.length cR471, .slice Al0 l0.length cl0]) (by kernel_rfl) (fun W hI => (Calls.lendN (Φ := fun v' N => v' = .bool t65 ∧ N = []) (H := []) (i := 4) rfl hI (fun _ e l69 nl69 hI => by subst e; exact (((grapevinelaw0_SameBytes_calls k t45.2.1 l0 AR471 cR471 (HR471.rdN l69 nl69) Al0 cl0 (Hl0.mono l69) t65 ht66 hI)).mono fun _ _ hr => by obtain ⟨_, _, _, rfl, hd, hI⟩ := hr; obtain ⟨rfl, rfl, rfl⟩ := hd; exact ⟨_, _, _, rfl, ⟨[], ⟨rfl, rfl⟩, rfl, rfl⟩, hI⟩))).mono fun _ _ hr => by obtain ⟨_, _, _, rfl, ⟨_, hd, rfl, rfl⟩, hI⟩ := hr; obtain ⟨rfl, rfl⟩ := hd; exact ⟨_, _, _, rfl, ⟨rfl, rfl, rfl⟩, hI⟩)) ?_
                          rintro _ _ _ ⟨rfl, rfl, rfl⟩
                          refine WL.pure 29 32 [0, 9, 14, 17, 121] (L' := [(0, .slice Al0 l0.length cl0), (9, .pointer (some ⟨bR11, 0, none⟩)), (14, .slice AR511 t49.2.1.length cR511), (17, .slice AR551 t53.2.1.length cR551), (121, .bool (!t65))]) (by kernel_rfl) (by decide) ?_
                          refine WL.split 121 (b := (!t65)) (by kernel_rfl) (fun hc => ?_) (fun hc => ?_)
                          · replace hc := hc
                            rw [if_pos hc] at h
                            have hc70 := hc
                            clear hc
                            refine WL.rest 32 [0, 9, 14, 133] (L' := [(0, .slice Al0 l0.length cl0), (9, .pointer (some ⟨bR11, 0, none⟩)), (14, .slice AR511 t49.2.1.length cR511), (133, .bool true)]) (by kernel_rfl) ?_
                            refine QP.dropAt 4 ?_
                            refine QP.dropAt 0 ?_
                            refine QP.pick [0, 9, 14, 133] ?_
                            exact QP.meet ⟨_, Option.some.inj h, rfl, rfl, rfl⟩
                          · replace hc := (Bool.eq_false_iff.1 hc)
                            rw [if_neg hc] at h
                            have hc70 := hc
                            clear hc
                            refine WL.pure 32 34 [0, 9, 14, 121, 122, 123] (L' := [(0, .slice Al0 l0.length cl0), (9, .pointer (some ⟨bR11, 0, none⟩)), (14, .slice AR511 t49.2.1.length cR511), (121, .bool false), (122, .slice AR511 t49.2.1.length cR511), (123, .slice AR551 t53.2.1.length cR551)]) (by kernel_rfl) (by decide) ?_
                            rw [Option.bind_eq_some_iff] at h
                            obtain ⟨t71, ht72, h⟩ := h
                            refine WL.op (op := .call { callee := (.value (.func 48)), args := #[(.tmp 122), (.tmp 123)], argTypes := #[70, 70] }) (ty := 4) (d := some 124) (g := some (31, false)) (by kernel_rfl) (by kernel_rfl) (by kernel_rfl) (Does.call (Φ := fun v' G' Γ' => v' = .bool t71 ∧ G = G' ∧ CR551 :: [(bR11, .cells #[.int .i64 t53.2.2.2.f0, .slice AR55p0 t53.2.2.2.f1.length cR55p0] 89 (0, 0))] :: CR55p0 :: CR511 :: CR471 :: Γ = Γ') (f := 48) (args := [.slice AR511 t49.2.1.length cR511, .slice AR551 t53.2.1.length cR551]) (by kernel_rfl) (fun W hI => (Calls.lendN (Φ := fun v' N => v' = .bool t71 ∧ N = []) (H := []) (i := 3) rfl hI (fun _ e l75 nl75 hI => by subst e; exact Calls.lendN (Φ := fun v' N => v' = .bool t71 ∧ N = []) (H := []) (i := 0) rfl hI (fun _ e l76 nl76 hI => by subst e; exact (((grapevinelaw0_SameBytes_calls k t49.2.1 t53.2.1 AR511 cR511 ((HR511.rdN l75 nl75).mono l76) AR551 cR551 ((HR551.mono l75).rdN l76 nl76) t71 ht72 hI)).mono fun _ _ hr => by obtain ⟨_, _, _, rfl, hd, hI⟩ := hr; obtain ⟨rfl, rfl, rfl⟩ := hd; exact ⟨_, _, _, rfl, ⟨[], ⟨rfl, rfl⟩, rfl, rfl⟩, hI⟩)))).mono fun _ _ hr => by obtain ⟨_, _, _, rfl, ⟨_, hd, rfl, rfl⟩, hI⟩ := hr; obtain ⟨rfl, rfl⟩ := hd; exact ⟨_, _, _, rfl, ⟨rfl, rfl, rfl⟩, hI⟩)) ?_
                            rintro _ _ _ ⟨rfl, rfl, rfl⟩
                            refine WL.pure 35 38 [0, 9, 14, 127] (L' := [(0, .slice Al0 l0.length cl0), (9, .pointer (some ⟨bR11, 0, none⟩)), (14, .slice AR511 t49.2.1.length cR511), (127, .bool (!t71))]) (by kernel_rfl) (by decide) ?_
                            refine WL.split 127 (b := (!t71)) (by kernel_rfl) (fun hc => ?_) (fun hc => ?_)
                            · replace hc := hc
                              rw [if_pos hc] at h
                              have hc77 := hc
                              clear hc
                              refine WL.rest 38 [0, 9, 14, 133] (L' := [(0, .slice Al0 l0.length cl0), (9, .pointer (some ⟨bR11, 0, none⟩)), (14, .slice AR511 t49.2.1.length cR511), (133, .bool true)]) (by kernel_rfl) ?_
                              refine QP.dropAt 4 ?_
                              refine QP.dropAt 0 ?_
                              refine QP.pick [0, 9, 14, 133] ?_
                              exact QP.meet ⟨_, Option.some.inj h, rfl, rfl, rfl⟩
                            · replace hc := (Bool.eq_false_iff.1 hc)
                              rw [if_neg hc] at h
                              have hc77 := hc
                              clear hc
                              refine WL.rest 38 [0, 9, 14, 133] (L' := [(0, .slice Al0 l0.length cl0), (9, .pointer (some ⟨bR11, 0, none⟩)), (14, .slice AR511 t49.2.1.length cR511), (133, .bool ((t49.2.1.length : Int) != (l0.length : Int)))]) (by kernel_rfl) ?_
                              refine QP.dropAt 4 ?_
                              refine QP.dropAt 0 ?_
                              refine QP.pick [0, 9, 14, 133] ?_
                              exact QP.meet ⟨_, Option.some.inj h, rfl, rfl, rfl⟩
            · rintro _ _ _ ⟨s57, rfl, rfl, rfl, rfl⟩
              clear h
              replace h := hk58
              refine WP.cond (b := s57) (by kernel_rfl) (fun hc => ?_) (fun hc => ?_)
              · replace hc := hc
                rw [if_pos hc] at h
                have hc78 := hc
                clear hc
                refine WP.seqP [8] (L' := [(8, .bool false)]) (by kernel_rfl) ?_
                refine WP.dropAt 2 ?_
                refine WP.dropAt 1 ?_
                refine WP.dropAt 0 ?_
                refine WP.ret ?_
                refine QP.thenR ?_
                obtain rfl := Option.some.inj h
                exact QP.returned [8] [.bool false] _ (by kernel_rfl) (by kernel_rfl) (by kernel_rfl) (fun W hI => ⟨_, _, _, rfl, ⟨rfl, rfl, rfl⟩, hI⟩)
              · replace hc := (Bool.eq_false_iff.1 hc)
                rw [if_neg hc] at h
                have hc78 := hc
                clear hc
                refine WP.skip ?_
                refine QP.next ?_
                refine WP.pick [0, 9, 14] ?_
                refine WP.seqP [0, 9, 14, 19] (L' := [(0, .slice Al0 l0.length cl0), (9, .pointer (some ⟨bR11, 0, none⟩)), (14, .slice AR511 t49.2.1.length cR511), (19, .int .i64 0)]) (by kernel_rfl) ?_
                refine WP.seq ?_
                refine WP.seqP [0, 9, 14, 19, 20] (L' := [(0, .slice Al0 l0.length cl0), (9, .pointer (some ⟨bR11, 0, none⟩)), (14, .slice AR511 t49.2.1.length cR511), (19, .int .i64 0), (20, .int .i64 0)]) (by kernel_rfl) ?_
                rw [Option.bind_eq_some_iff] at h
                obtain ⟨os79, h, hk80⟩ := h
                refine WP.cutQ (fun L' G' Γ' => ∃ s79 : Int, s79 = os79 ∧ L' = [(9, .pointer (some ⟨bR11, 0, none⟩)), (19, .int .i64 s79)] ∧ G = G' ∧ [(bR11, .cells #[.int .i64 t53.2.2.2.f0, .slice AR55p0 t53.2.2.2.f1.length cR55p0] 89 (0, 0))] :: CR55p0 :: Γ = Γ') ?_ ?_
                · clear hk80
                  refine WP.block ?_
                  refine WP.pick [0, 9, 14, 19, 20] ?_
                  refine WP.loopF (fun kn83 L' G' Γ' => ∃ (y81 : Int), ∃ (y82 : Int), grapevinelaw22_BagOnce_l0 l0 t49 kn83 y81 y82 = some os79 ∧ L' = [(0, .slice Al0 l0.length cl0), (9, .pointer (some ⟨bR11, 0, none⟩)), (14, .slice AR511 t49.2.1.length cR511), (19, .int .i64 y81), (20, .int .i64 y82)] ∧ G = G' ∧ [(bR11, .cells #[.int .i64 t53.2.2.2.f0, .slice AR55p0 t53.2.2.2.f1.length cR55p0] 89 (0, 0))] :: CR55p0 :: CR511 :: Γ = Γ') ?_ k ⟨0, 0, h, rfl, rfl, rfl⟩
                  clear h
                  rintro kn84 _ _ _ ⟨y81, y82, h, rfl, rfl, rfl⟩
                  cases kn84 with
                  | zero => exact absurd h (by simp [grapevinelaw22_BagOnce_l0])
                  | succ kn84 =>
                    simp only [grapevinelaw22_BagOnce_l0] at h
                    refine WP.seq ?_
                    refine WP.seqP [0, 9, 14, 19, 20, 137] (L' := [(0, .slice Al0 l0.length cl0), (9, .pointer (some ⟨bR11, 0, none⟩)), (14, .slice AR511 t49.2.1.length cR511), (19, .int .i64 y81), (20, .int .i64 y82), (137, .bool (decide (y82 < (t49.2.1.length : Int))))]) (by kernel_rfl) ?_
                    refine WP.cond (b := decide (y82 < (t49.2.1.length : Int))) (by kernel_rfl) (fun hc => ?_) (fun hc => ?_)
                    · replace hc := of_decide_eq_true hc
                      rw [if_pos hc] at h
                      have hc85 := hc
                      clear hc
                      refine WP.skip ?_
                      refine QP.next ?_
                      refine WP.pick [0, 9, 14, 19, 20] ?_
                      refine WP.seq ?_
                      refine WP.block ?_
                      refine WP.seq ?_
                      refine WP.any (N := 9) (S := [⟨some 140, [14], []⟩, ⟨some 141, [20], []⟩, ⟨some 142, [140, 141], [0, 1]⟩, ⟨some 143, [142], [2]⟩, ⟨some 144, [0], []⟩, ⟨some 145, [20], []⟩, ⟨some 146, [144, 145], [4, 5]⟩, ⟨some 147, [146], [6]⟩, ⟨some 148, [143, 147], [3, 7]⟩]) (kw := 9) (G0 := G) (Γ0 := [(bR11, .cells #[.int .i64 t53.2.2.2.f0, .slice AR55p0 t53.2.2.2.f1.length cR55p0] 89 (0, 0))] :: CR55p0 :: CR511 :: Γ) mo (by kernel_rfl) (fun hS => ?_)
                      refine WA.pure [0, 1, 4, 5] [0, 9, 14, 19, 20, 140, 141, 144, 145] (m := 5) (b' := 51) (L' := [(0, .slice Al0 l0.length cl0), (9, .pointer (some ⟨bR11, 0, none⟩)), (14, .slice AR511 t49.2.1.length cR511), (19, .int .i64 y81), (20, .int .i64 y82), (140, .slice AR511 t49.2.1.length cR511), (141, .int .i64 y82), (144, .slice Al0 l0.length cl0), (145, .int .i64 y82)]) (by kernel_rfl) (NoPanic.then (NoPanic.block (NoPanic.then (NoPanic.then (NoPanic.block (NoPanic.then (NoPanic.then (NoPanic.body)))))))) Under.refl hS (by kernel_rfl) ?_
                      by_cases hb86 : 0 ≤ y82 ∧ y82 < (t49.2.1.length : Int)
                      case neg => rw [if_neg hb86] at h; cases h
                      rw [if_pos hb86] at h
                      refine WA.tellD [] (i := 2) (m := 4) (b' := 55) (by kernel_rfl) (NoPanic.then (NoPanic.block (NoPanic.then (NoPanic.then (NoPanic.block (NoPanic.then (NoPanic.then (NoPanic.body)))))))) Under.refl hS (by kernel_rfl) (op := .indexAddr 70 (.tmp 140) (.tmp 141)) (ty := 0) (d := some 142) (g := none) (by kernel_rfl) (by kernel_rfl) (by kernel_rfl) (Tells.indexAddr (A := AR511) (n := t49.2.1.length) (c := cR511) (k := .i64) (j := y82) (by kernel_rfl) (by kernel_rfl) (HR511.isSome hb86.1 hb86.2) hb86.1 hb86.2 sl70) ?_
                      refine WA.tellDE [] (i := 3) (m := 3) (b' := 63) (by kernel_rfl) (NoPanic.then (NoPanic.block (NoPanic.then (NoPanic.then (NoPanic.block (NoPanic.then (NoPanic.then (NoPanic.body)))))))) Under.refl hS (by kernel_rfl) (op := .load 5 (.tmp 142)) (ty := 5) (d := some 143) (g := none) (by kernel_rfl) (by kernel_rfl) (by kernel_rfl) (HR511.load (i := 2) rfl (agg := false) hb86.1 hb86.2 0 ag5 (fun _ => rfl) (by kernel_rfl)) ?_
                      rintro _ rfl
                      by_cases hb87 : 0 ≤ y82 ∧ y82 < (l0.length : Int)
                      case neg => rw [if_neg hb87] at h; cases h
                      rw [if_pos hb87] at h
                      refine WA.tellD [] (i := 6) (m := 2) (b' := 127) (by kernel_rfl) (NoPanic.then (NoPanic.block (NoPanic.then (NoPanic.then (NoPanic.block (NoPanic.then (NoPanic.then (NoPanic.body)))))))) Under.refl hS (by kernel_rfl) (op := .indexAddr 70 (.tmp 144) (.tmp 145)) (ty := 0) (d := some 146) (g := none) (by kernel_rfl) (by kernel_rfl) (by kernel_rfl) (Tells.indexAddr (A := Al0) (n := l0.length) (c := cl0) (k := .i64) (j := y82) (by kernel_rfl) (by kernel_rfl) (Hl0.isSome hb87.1 hb87.2) hb87.1 hb87.2 sl70) ?_
                      refine WA.tellDE [] (i := 7) (m := 1) (b' := 255) (by kernel_rfl) (NoPanic.then (NoPanic.block (NoPanic.then (NoPanic.then (NoPanic.block (NoPanic.then (NoPanic.then (NoPanic.body)))))))) Under.refl hS (by kernel_rfl) (op := .load 5 (.tmp 146)) (ty := 5) (d := some 147) (g := none) (by kernel_rfl) (by kernel_rfl) (by kernel_rfl) (Hl0.load (agg := false) hb87.1 hb87.2 0 ag5 (fun _ => rfl) (by kernel_rfl)) ?_
                      rintro _ rfl
                      refine WA.pure [8] [0, 9, 14, 19, 20, 148] (m := 0) (b' := 511) (L' := [(0, .slice Al0 l0.length cl0), (9, .pointer (some ⟨bR11, 0, none⟩)), (14, .slice AR511 t49.2.1.length cR511), (19, .int .i64 y81), (20, .int .i64 y82), (148, .bool ((t49.2.1.getD y82.toNat 0) != (l0.getD y82.toNat 0)))]) (by kernel_rfl) (NoPanic.then (NoPanic.block (NoPanic.then (NoPanic.then (NoPanic.block (NoPanic.then (NoPanic.then (NoPanic.body)))))))) Under.refl hS (by kernel_rfl) ?_
                      refine WA.done hS (by kernel_rfl) ?_
                      refine QP.pick [0, 9, 14, 19, 20, 148] ?_
                      refine QP.next ?_
                      refine WP.cond (b := ((t49.2.1.getD y82.toNat 0) != (l0.getD y82.toNat 0))) (by kernel_rfl) (fun hc => ?_) (fun hc => ?_)
                      · replace hc := (bne_iff_ne.1 hc)
                        rw [if_pos hc] at h
                        have hc88 := hc
                        clear hc
                        refine WP.regionP [0, 9, 14, 19, 20] (L' := [(0, .slice Al0 l0.length cl0), (9, .pointer (some ⟨bR11, 0, none⟩)), (14, .slice AR511 t49.2.1.length cR511), (19, .int .i64 (IntKind.i64.wrap (y81 + 1))), (20, .int .i64 y82)]) (by kernel_rfl) ?_
                        refine QP.blockN ?_
                        refine QP.next ?_
                        refine WP.pick [0, 9, 14, 19, 20] ?_
                        refine WP.regionP [0, 9, 14, 19, 20] (L' := [(0, .slice Al0 l0.length cl0), (9, .pointer (some ⟨bR11, 0, none⟩)), (14, .slice AR511 t49.2.1.length cR511), (19, .int .i64 (IntKind.i64.wrap (y81 + 1))), (20, .int .i64 (IntKind.i64.wrap (y82 + 1)))]) (by kernel_rfl) ?_
                        refine QP.front (i := 2) rfl ?_
                        refine QP.front (i := 2) rfl ?_
                        refine QP.front (i := 2) rfl ?_
                        refine QP.pick [0, 9, 14, 19, 20] ?_
                        exact QP.meet ⟨kn84, Nat.lt_succ_self _, (IntKind.i64.wrap (y81 + 1)), (IntKind.i64.wrap (y82 + 1)), h, rfl, rfl, rfl⟩
                      · replace hc := (not_not_intro (bne_eq_false_iff_eq.1 hc))
                        rw [if_neg hc] at h
                        have hc88 := hc
                        clear hc
                        refine WP.skip ?_
                        refine QP.blockN ?_
                        refine QP.next ?_
                        refine WP.pick [0, 9, 14, 19, 20] ?_
                        refine WP.regionP [0, 9, 14, 19, 20] (L' := [(0, .slice Al0 l0.length cl0), (9, .pointer (some ⟨bR11, 0, none⟩)), (14, .slice AR511 t49.2.1.length cR511), (19, .int .i64 y81), (20, .int .i64 (IntKind.i64.wrap (y82 + 1)))]) (by kernel_rfl) ?_
                        refine QP.front (i := 2) rfl ?_
                        refine QP.front (i := 2) rfl ?_
                        refine QP.front (i := 2) rfl ?_
                        refine QP.pick [0, 9, 14, 19, 20] ?_
                        exact QP.meet ⟨kn84, Nat.lt_succ_self _, y81, (IntKind.i64.wrap (y82 + 1)), h, rfl, rfl, rfl⟩
                    · replace hc := of_decide_eq_false hc
                      rw [if_neg hc] at h
                      have hc85 := hc
                      clear hc
                      refine WP.exit ?_
                      refine QP.thenE ?_
                      refine QP.thenE ?_
                      refine QP.blockE ?_
                      refine QP.dropAt 2 ?_
                      refine QP.pick [9, 19] ?_
                      exact QP.meet ⟨_, Option.some.inj h, rfl, rfl, rfl⟩
                · rintro _ _ _ ⟨s79, rfl, rfl, rfl, rfl⟩
                  clear h
                  replace h := hk80
                  refine QP.next ?_
                  refine WP.pick [9, 19] ?_
                  refine WP.seqR ?_
                  refine WL.pure 0 1 [9, 19, 152] (L' := [(9, .pointer (some ⟨bR11, 0, none⟩)), (19, .int .i64 s79), (152, .pointer (some ⟨bR11, 0, none⟩))]) (by kernel_rfl) (by decide) ?_
                  refine WL.front (i := 1) rfl ?_
                  refine WL.front (i := 1) rfl ?_
                  rw [Option.bind_eq_some_iff] at h
                  obtain ⟨t89, ht90, h⟩ := h
                  refine WL.op (op := .call { callee := (.value (.func 44)), args := #[(.tmp 152), (.const (.int .i64 0))], argTypes := #[67, 3] }) (ty := 71) (d := some 153) (g := none) (by kernel_rfl) (by kernel_rfl) (by kernel_rfl) (Does.call (f := 44) (args := [.pointer (some ⟨bR11, 0, none⟩), .int .i64 0]) (by kernel_rfl) (fun W hI => (bag_Bag_Take_calls t53.2.2.2 0 bR11 AR55p0 cR55p0 CR55p0 HR55p0 t89 ht90 hI))) ?_
                  rintro _ _ _ ⟨AR911, cR911, CR911, AR91p0, cR91p0, CR91p0, rfl, HR911, HR91p0, rfl, rfl⟩
                  refine WL.restQ 2 [9, 19, 23] (L' := [(9, .pointer (some ⟨bR11, 0, none⟩)), (19, .int .i64 s79), (23, .bool t89.2.2.1)]) (by kernel_rfl) ?_
                  refine WP.dropAt 0 ?_
                  rw [Option.bind_eq_some_iff] at h
                  obtain ⟨os93, h, hk94⟩ := h
                  refine WP.cut (fun L' G' Γ' => ∃ s93 : Bool × T89, s93 = os93 ∧ ∃ (As93_2_f1 : Option Addr), ∃ (cs93_2_f1 : Nat), ∃ (Cs93_2_f1 : Chunk), L' = [(8, .bool s93.1)] ∧ G = G' ∧ [(bR11, .cells #[.int .i64 s93.2.f0, .slice As93_2_f1 s93.2.f1.length cs93_2_f1] 89 (0, 0))] :: Cs93_2_f1 :: Γ = Γ' ∧ Dp d94 G As93_2_f1 cs93_2_f1 s93.2.f1 Cs93_2_f1) ?_ ?_
                  · clear hk94
                    refine WP.region ?_
                    refine WL.pure 0 3 [9, 23, 159] (L' := [(9, .pointer (some ⟨bR11, 0, none⟩)), (23, .bool t89.2.2.1), (159, .bool (s79 == 1))]) (by kernel_rfl) (by decide) ?_
                    refine WL.split 159 (b := (s79 == 1)) (by kernel_rfl) (fun hc => ?_) (fun hc => ?_)
                    · replace hc := eq_of_beq hc
                      rw [if_pos hc] at h
                      have hc95 := hc
                      clear hc
                      refine WL.pure 3 7 [9, 163] (L' := [(9, .pointer (some ⟨bR11, 0, none⟩)), (163, .bool (!t89.2.2.1))]) (by kernel_rfl) (by decide) ?_
                      refine WL.split 163 (b := (!t89.2.2.1)) (by kernel_rfl) (fun hc => ?_) (fun hc => ?_)
                      · replace hc := hc
                        rw [if_pos hc] at h
                        have hc96 := hc
                        clear hc
                        refine WL.pure 7 8 [9, 163, 164] (L' := [(9, .pointer (some ⟨bR11, 0, none⟩)), (163, .bool true), (164, .pointer (some ⟨bR11, 0, none⟩))]) (by kernel_rfl) (by decide) ?_
                        refine WL.front (i := 1) rfl ?_
                        refine WL.front (i := 1) rfl ?_
                        rw [Option.bind_eq_some_iff] at h
                        obtain ⟨t97, ht98, h⟩ := h
                        refine WL.op (op := .call { callee := (.value (.func 45)), args := #[(.tmp 164), (.const (.int .i64 0))], argTypes := #[67, 3] }) (ty := 4) (d := some 165) (g := some (6, true)) (by kernel_rfl) (by kernel_rfl) (by kernel_rfl) (Does.call (f := 45) (args := [.pointer (some ⟨bR11, 0, none⟩), .int .i64 0]) (by kernel_rfl) (fun W hI => (bag_Bag_Drop_calls t89.2.2.2 0 bR11 AR91p0 cR91p0 CR91p0 HR91p0 t97 ht98 hI))) ?_
                        rintro _ _ _ ⟨AR99p0, cR99p0, CR99p0, rfl, HR99p0, rfl, rfl⟩
                        refine WL.pure 9 12 [9, 168] (L' := [(9, .pointer (some ⟨bR11, 0, none⟩)), (168, .bool (!t97.1))]) (by kernel_rfl) (by decide) ?_
                        refine WL.split 168 (b := (!t97.1)) (by kernel_rfl) (fun hc => ?_) (fun hc => ?_)
                        · replace hc := hc
                          rw [if_pos hc] at h
                          have hc101 := hc
                          clear hc
                          refine WL.pure 12 13 [168, 169] (L' := [(168, .bool true), (169, .pointer (some ⟨bR11, 0, none⟩))]) (by kernel_rfl) (by decide) ?_
                          refine WL.front (i := 1) rfl ?_
                          refine WL.front (i := 1) rfl ?_
                          rw [Option.bind_eq_some_iff] at h
                          obtain ⟨t102, ht103, h⟩ := h
                          refine WL.op (op := .call { callee := (.value (.func 49)), args := #[(.tmp 169), (.const (.int .i64 0))], argTypes := #[67, 3] }) (ty := 41) (d := some 170) (g := some (11, true)) (by kernel_rfl) (by kernel_rfl) (by kernel_rfl) (Does.call (f := 49) (args := [.pointer (some ⟨bR11, 0, none⟩), .int .i64 0]) (by kernel_rfl) (fun W hI => (bag_Bag_Twice_25_calls t97.2 0 bR11 AR99p0 cR99p0 CR99p0 HR99p0 t102 ht103 hI))) ?_
                          rintro _ _ _ ⟨AR104p0, cR104p0, CR104p0, rfl, HR104p0, rfl, rfl⟩
                          refine WL.pure 14 17 [173] (L' := [(173, .bool (t102.1 == 13))]) (by kernel_rfl) (by decide) ?_
                          refine WL.split 173 (b := (t102.1 == 13)) (by kernel_rfl) (fun hc => ?_) (fun hc => ?_)
                          · replace hc := eq_of_beq hc
                            rw [if_pos hc] at h
                            have hc106 := hc
                            clear hc
                            rw [Option.bind_eq_some_iff] at h
                            obtain ⟨t107, ht108, h⟩ := h
                            refine WL.op (op := .call { callee := (.value (.func 47)), args := #[], argTypes := #[] }) (ty := 4) (d := some 174) (g := some (16, true)) (by kernel_rfl) (by kernel_rfl) (by kernel_rfl) (Does.call (f := 47) (args := []) (by kernel_rfl) (fun W hI => (grapevinelaw22_awake_calls k   t107 ht108 hI))) ?_
                            rintro _ _ _ ⟨rfl, rfl, rfl⟩
                            refine WL.rest 18 [8] (L' := [(8, .bool t107)]) (by kernel_rfl) ?_
                            refine QP.pick [8] ?_
                            exact QP.meet ⟨_, Option.some.inj h, AR104p0, cR104p0, CR104p0, rfl, rfl, rfl, HR104p0⟩
                          · replace hc := ne_of_beq_false hc
                            rw [if_neg hc] at h
                            have hc106 := hc
                            clear hc
                            refine WL.rest 17 [8] (L' := [(8, .bool false)]) (by kernel_rfl) ?_
                            refine QP.pick [8] ?_
                            exact QP.meet ⟨_, Option.some.inj h, AR104p0, cR104p0, CR104p0, rfl, rfl, rfl, HR104p0⟩
                        · replace hc := (Bool.eq_false_iff.1 hc)
                          rw [if_neg hc] at h
                          have hc101 := hc
                          clear hc
                          refine WL.rest 12 [8] (L' := [(8, .bool false)]) (by kernel_rfl) ?_
                          refine QP.pick [8] ?_
                          exact QP.meet ⟨_, Option.some.inj h, AR99p0, cR99p0, CR99p0, rfl, rfl, rfl, HR99p0⟩
                      · replace hc := (Bool.eq_false_iff.1 hc)
                        rw [if_neg hc] at h
                        have hc96 := hc
                        clear hc
                        refine WL.rest 7 [8] (L' := [(8, .bool false)]) (by kernel_rfl) ?_
                        refine QP.pick [8] ?_
                        exact QP.meet ⟨_, Option.some.inj h, AR91p0, cR91p0, CR91p0, rfl, rfl, rfl, HR91p0⟩
                    · replace hc := ne_of_beq_false hc
                      rw [if_neg hc] at h
                      have hc95 := hc
                      clear hc
                      refine WL.rest 3 [8] (L' := [(8, .bool false)]) (by kernel_rfl) ?_
                      refine QP.pick [8] ?_
                      exact QP.meet ⟨_, Option.some.inj h, AR91p0, cR91p0, CR91p0, rfl, rfl, rfl, HR91p0⟩
                  · rintro _ _ _ ⟨s93, rfl, As93_2_f1, cs93_2_f1, Cs93_2_f1, rfl, rfl, rfl, Hs93_2_f1⟩
                    clear h
                    replace h := hk94
                    refine WP.ret ?_
                    obtain rfl := Option.some.inj h
                    refine QP.dropAt 1 ?_
                    refine QP.dropAt 0 ?_
                    exact QP.returned [8] [.bool s93.1] _ (by kernel_rfl) (by kernel_rfl) (by kernel_rfl) (fun W hI => ⟨_, _, _, rfl, ⟨rfl, rfl, rfl⟩, hI⟩)
/-- The plain law. -/
def BagOnce_Pure : Prop := ∀ (l0 : List Int) (a1 : Int) (a2 : Int) (a3 : Int), (l0.length ≤ maxLen ∧ ∀ z0 ∈ l0, (Lit.int .u8 z0).wf = true) → (Lit.int .i64 a1).wf = true → (Lit.int .i64 a2).wf = true → (Lit.int .i64 a3).wf = true → ∃ k, grapevinelaw22_BagOnce k l0 a1 a2 a3 = some true
end Go.Proofs.Ytmphcmgbognmnaa.Gf
