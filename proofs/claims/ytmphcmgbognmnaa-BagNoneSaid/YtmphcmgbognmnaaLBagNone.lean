/- Walks of Go functions: what each tells, as a plain Lean function, and that the Go code comes to it. Written by gg.py of this repo. -/
import Derived.Test.YtmphcmgbognmnaaT
import Derived.Test.YtmphcmgbognmnaaF0
namespace Go.Proofs.Ytmphcmgbognmnaa.Gf
open Go Go.Gg
set_option maxRecDepth 100000
set_option linter.unusedVariables false
set_option linter.unusedSimpArgs false

/-! ### grapevine/grapevinelaw22.BagNone: function 16 -/
def grapevinelaw22_BagNone (k : Nat) (a0 : Int) : Option Bool := ((bag_Bag_Take_16 a0).bind fun t1 => (((bag_Bag_Put_19 a0 ([] : List Int)).bind fun t7 => (if t7 = 1 then (if t1.1 = 0 then (if (t1.2.1.length : Int) = 0 then (if (!t1.2.2) = true then ((bag_Bag_Drop_20 a0).bind fun t15 => (if (!t15) = true then ((bag_Bag_Twice a0).bind fun t20 => (if t20 = 1 then ((bag_Bag_Spoil_22 a0 a0 a0).bind fun t25 => (if (!t25) = true then ((bag_Bag_Len_18 ).bind fun t30 => (if t30 = 0 then ((bag_Bag_To k ).bind fun t35 => (if (t35.length : Int) = 0 then ((grapevinelaw22_awake k ).bind fun t40 => some t40) else some false)) else some false)) else some false)) else some false)) else some false)) else some false) else some false) else some false) else some false)).bind fun s5 => some s5))
set_option maxHeartbeats 4000000 in
theorem grapevinelaw22_BagNone_calls {B : World} {G : GMap} {Γ : List Chunk} {W : World} (k : Nat) (a0 : Int) (r : Bool) (h : grapevinelaw22_BagNone k a0 = some r) (hI : Inv B G (Γ) W) :
    Calls Try.prog 16 [.int .i64 a0].toArray W (Ret B (fun v G' Γ' => v = .bool r ∧ G = G' ∧ Γ = Γ')) := by
  refine calls_WP (Γ := Γ) (G := G) (B := B) Try.func16 rfl (by kernel_rfl) ?_ hI
  clear hI
  unfold grapevinelaw22_BagNone at h
  refine WP.seqP [0] (L' := [(0, .int .i64 a0)]) (by kernel_rfl) ?_
  refine WP.seqP [0, 3] (L' := [(0, .int .i64 a0), (3, .pointer none)]) (by kernel_rfl) ?_
  refine WP.seqR ?_
  refine WL.pure 0 2 [0, 3, 8, 9] (L' := [(0, .int .i64 a0), (3, .pointer none), (8, .pointer none), (9, .int .i64 a0)]) (by kernel_rfl) (by decide) ?_
  rw [Option.bind_eq_some_iff] at h
  obtain ⟨t1, ht2, h⟩ := h
  refine WL.op (op := .call { callee := (.value (.func 44)), args := #[(.tmp 8), (.tmp 9)], argTypes := #[67, 3] }) (ty := 71) (d := some 10) (g := none) (by kernel_rfl) (by kernel_rfl) (by kernel_rfl) (Does.call (f := 44) (args := [.pointer none, .int .i64 a0]) (by kernel_rfl) (fun W hI => (bag_Bag_Take_16_calls a0  t1 ht2 hI))) ?_
  rintro _ _ _ ⟨AR31, cR31, rfl, HR31, rfl, rfl⟩
  refine WL.restQ 3 [0, 3, 4, 5, 6] (L' := [(0, .int .i64 a0), (3, .pointer none), (4, .int .i64 t1.1), (5, .slice AR31 t1.2.1.length cR31), (6, .bool t1.2.2)]) (by kernel_rfl) ?_
  rw [Option.bind_eq_some_iff] at h
  obtain ⟨os5, h, hk6⟩ := h
  refine WP.cut (fun L' G' Γ' => ∃ s5 : Bool, s5 = os5 ∧ L' = [(2, .bool s5)] ∧ G = G' ∧ Γ = Γ') ?_ ?_
  · clear hk6
    refine WP.region ?_
    refine WL.pure 0 2 [0, 3, 4, 5, 6, 14, 15] (L' := [(0, .int .i64 a0), (3, .pointer none), (4, .int .i64 t1.1), (5, .slice AR31 t1.2.1.length cR31), (6, .bool t1.2.2), (14, .pointer none), (15, .int .i64 a0)]) (by kernel_rfl) (by decide) ?_
    rw [Option.bind_eq_some_iff] at h
    obtain ⟨t7, ht8, h⟩ := h
    refine WL.op (op := .call { callee := (.value (.func 43)), args := #[(.tmp 14), (.tmp 15), (.const (.slice none 0 0))], argTypes := #[67, 3, 70] }) (ty := 41) (d := some 16) (g := none) (by kernel_rfl) (by kernel_rfl) (by kernel_rfl) (Does.call (f := 43) (args := [.pointer none, .int .i64 a0, .slice none 0 0]) (by kernel_rfl) (fun W hI => (bag_Bag_Put_19_calls a0 ([] : List Int) none 0 (Rd.nil _ _ _ _) t7 ht8 hI))) ?_
    rintro _ _ _ ⟨rfl, rfl, rfl⟩
    refine WL.pure 3 5 [0, 3, 4, 5, 6, 18] (L' := [(0, .int .i64 a0), (3, .pointer none), (4, .int .i64 t1.1), (5, .slice AR31 t1.2.1.length cR31), (6, .bool t1.2.2), (18, .bool (t7 == 1))]) (by kernel_rfl) (by decide) ?_
    refine WL.split 18 (b := (t7 == 1)) (by kernel_rfl) (fun hc => ?_) (fun hc => ?_)
    · replace hc := eq_of_beq hc
      rw [if_pos hc] at h
      have hc11 := hc
      clear hc
      refine WL.pure 5 9 [0, 3, 5, 6, 22] (L' := [(0, .int .i64 a0), (3, .pointer none), (5, .slice AR31 t1.2.1.length cR31), (6, .bool t1.2.2), (22, .bool (t1.1 == 0))]) (by kernel_rfl) (by decide) ?_
      refine WL.split 22 (b := (t1.1 == 0)) (by kernel_rfl) (fun hc => ?_) (fun hc => ?_)
      · replace hc := eq_of_beq hc
        rw [if_pos hc] at h
        have hc12 := hc
        clear hc
        refine WL.pure 9 14 [0, 3, 6, 27] (L' := [(0, .int .i64 a0), (3, .pointer none), (6, .bool t1.2.2), (27, .bool ((t1.2.1.length : Int) == 0))]) (by kernel_rfl) (by decide) ?_
        refine WL.split 27 (b := ((t1.2.1.length : Int) == 0)) (by kernel_rfl) (fun hc => ?_) (fun hc => ?_)
        · replace hc := eq_of_beq hc
          rw [if_pos hc] at h
          have hc13 := hc
          clear hc
          refine WL.pure 14 18 [0, 3, 31] (L' := [(0, .int .i64 a0), (3, .pointer none), (31, .bool (!t1.2.2))]) (by kernel_rfl) (by decide) ?_
          refine WL.split 31 (b := (!t1.2.2)) (by kernel_rfl) (fun hc => ?_) (fun hc => ?_)
          · replace hc := hc
            rw [if_pos hc] at h
            have hc14 := hc
            clear hc
            refine WL.pure 18 20 [0, 3, 31, 32, 33] (L' := [(0, .int .i64 a0), (3, .pointer none), (31, .bool true), (32, .pointer none), (33, .int .i64 a0)]) (by kernel_rfl) (by decide) ?_
            rw [Option.bind_eq_some_iff] at h
            obtain ⟨t15, ht16, h⟩ := h
            refine WL.op (op := .call { callee := (.value (.func 45)), args := #[(.tmp 32), (.tmp 33)], argTypes := #[67, 3] }) (ty := 4) (d := some 34) (g := some (17, true)) (by kernel_rfl) (by kernel_rfl) (by kernel_rfl) (Does.call (f := 45) (args := [.pointer none, .int .i64 a0]) (by kernel_rfl) (fun W hI => (bag_Bag_Drop_20_calls a0  t15 ht16 hI))) ?_
            rintro _ _ _ ⟨rfl, rfl, rfl⟩
            refine WL.pure 21 24 [0, 3, 37] (L' := [(0, .int .i64 a0), (3, .pointer none), (37, .bool (!t15))]) (by kernel_rfl) (by decide) ?_
            refine WL.split 37 (b := (!t15)) (by kernel_rfl) (fun hc => ?_) (fun hc => ?_)
            · replace hc := hc
              rw [if_pos hc] at h
              have hc19 := hc
              clear hc
              refine WL.pure 24 26 [0, 3, 37, 38, 39] (L' := [(0, .int .i64 a0), (3, .pointer none), (37, .bool true), (38, .pointer none), (39, .int .i64 a0)]) (by kernel_rfl) (by decide) ?_
              rw [Option.bind_eq_some_iff] at h
              obtain ⟨t20, ht21, h⟩ := h
              refine WL.op (op := .call { callee := (.value (.func 49)), args := #[(.tmp 38), (.tmp 39)], argTypes := #[67, 3] }) (ty := 41) (d := some 40) (g := some (23, true)) (by kernel_rfl) (by kernel_rfl) (by kernel_rfl) (Does.call (f := 49) (args := [.pointer none, .int .i64 a0]) (by kernel_rfl) (fun W hI => (bag_Bag_Twice_calls a0  t20 ht21 hI))) ?_
              rintro _ _ _ ⟨rfl, rfl, rfl⟩
              refine WL.pure 27 30 [0, 3, 43] (L' := [(0, .int .i64 a0), (3, .pointer none), (43, .bool (t20 == 1))]) (by kernel_rfl) (by decide) ?_
              refine WL.split 43 (b := (t20 == 1)) (by kernel_rfl) (fun hc => ?_) (fun hc => ?_)
              · replace hc := eq_of_beq hc
                rw [if_pos hc] at h
                have hc24 := hc
                clear hc
                refine WL.pure 30 34 [3, 43, 44, 45, 46, 47] (L' := [(3, .pointer none), (43, .bool true), (44, .pointer none), (45, .int .i64 a0), (46, .int .i64 a0), (47, .int .i64 a0)]) (by kernel_rfl) (by decide) ?_
                rw [Option.bind_eq_some_iff] at h
                obtain ⟨t25, ht26, h⟩ := h
                refine WL.op (op := .call { callee := (.value (.func 50)), args := #[(.tmp 44), (.tmp 45), (.tmp 46), (.tmp 47)], argTypes := #[67, 3, 3, 3] }) (ty := 4) (d := some 48) (g := some (29, true)) (by kernel_rfl) (by kernel_rfl) (by kernel_rfl) (Does.call (f := 50) (args := [.pointer none, .int .i64 a0, .int .i64 a0, .int .i64 a0]) (by kernel_rfl) (fun W hI => (bag_Bag_Spoil_22_calls a0 a0 a0  t25 ht26 hI))) ?_
                rintro _ _ _ ⟨rfl, rfl, rfl⟩
                refine WL.pure 35 38 [3, 51] (L' := [(3, .pointer none), (51, .bool (!t25))]) (by kernel_rfl) (by decide) ?_
                refine WL.split 51 (b := (!t25)) (by kernel_rfl) (fun hc => ?_) (fun hc => ?_)
                · replace hc := hc
                  rw [if_pos hc] at h
                  have hc29 := hc
                  clear hc
                  refine WL.pure 38 39 [3, 51, 52] (L' := [(3, .pointer none), (51, .bool true), (52, .pointer none)]) (by kernel_rfl) (by decide) ?_
                  rw [Option.bind_eq_some_iff] at h
                  obtain ⟨t30, ht31, h⟩ := h
                  refine WL.op (op := .call { callee := (.value (.func 46)), args := #[(.tmp 52)], argTypes := #[67] }) (ty := 3) (d := some 53) (g := some (37, true)) (by kernel_rfl) (by kernel_rfl) (by kernel_rfl) (Does.call (f := 46) (args := [.pointer none]) (by kernel_rfl) (fun W hI => (bag_Bag_Len_18_calls   t30 ht31 hI))) ?_
                  rintro _ _ _ ⟨rfl, rfl, rfl⟩
                  refine WL.pure 40 43 [3, 56] (L' := [(3, .pointer none), (56, .bool (t30 == 0))]) (by kernel_rfl) (by decide) ?_
                  refine WL.split 56 (b := (t30 == 0)) (by kernel_rfl) (fun hc => ?_) (fun hc => ?_)
                  · replace hc := eq_of_beq hc
                    rw [if_pos hc] at h
                    have hc34 := hc
                    clear hc
                    refine WL.pure 43 44 [56, 57] (L' := [(56, .bool true), (57, .pointer none)]) (by kernel_rfl) (by decide) ?_
                    rw [Option.bind_eq_some_iff] at h
                    obtain ⟨t35, ht36, h⟩ := h
                    refine WL.op (op := .call { callee := (.value (.func 51)), args := #[(.tmp 57)], argTypes := #[67] }) (ty := 52) (d := some 58) (g := some (42, true)) (by kernel_rfl) (by kernel_rfl) (by kernel_rfl) (Does.call (f := 51) (args := [.pointer none]) (by kernel_rfl) (fun W hI => (bag_Bag_To_calls k   t35 ht36 hI))) ?_
                    rintro _ _ _ ⟨AR37, cR37, rfl, HR37, rfl, rfl⟩
                    refine WL.pure 45 49 [62] (L' := [(62, .bool ((t35.length : Int) == 0))]) (by kernel_rfl) (by decide) ?_
                    refine WL.split 62 (b := ((t35.length : Int) == 0)) (by kernel_rfl) (fun hc => ?_) (fun hc => ?_)
                    · replace hc := eq_of_beq hc
                      rw [if_pos hc] at h
                      have hc39 := hc
                      clear hc
                      rw [Option.bind_eq_some_iff] at h
                      obtain ⟨t40, ht41, h⟩ := h
                      refine WL.op (op := .call { callee := (.value (.func 47)), args := #[], argTypes := #[] }) (ty := 4) (d := some 63) (g := some (48, true)) (by kernel_rfl) (by kernel_rfl) (by kernel_rfl) (Does.call (f := 47) (args := []) (by kernel_rfl) (fun W hI => (grapevinelaw22_awake_calls k   t40 ht41 hI))) ?_
                      rintro _ _ _ ⟨rfl, rfl, rfl⟩
                      refine WL.rest 50 [2] (L' := [(2, .bool t40)]) (by kernel_rfl) ?_
                      refine QP.pick [2] ?_
                      exact QP.meet ⟨_, Option.some.inj h, rfl, rfl, rfl⟩
                    · replace hc := ne_of_beq_false hc
                      rw [if_neg hc] at h
                      have hc39 := hc
                      clear hc
                      refine WL.rest 49 [2] (L' := [(2, .bool false)]) (by kernel_rfl) ?_
                      refine QP.pick [2] ?_
                      exact QP.meet ⟨_, Option.some.inj h, rfl, rfl, rfl⟩
                  · replace hc := ne_of_beq_false hc
                    rw [if_neg hc] at h
                    have hc34 := hc
                    clear hc
                    refine WL.rest 43 [2] (L' := [(2, .bool false)]) (by kernel_rfl) ?_
                    refine QP.pick [2] ?_
                    exact QP.meet ⟨_, Option.some.inj h, rfl, rfl, rfl⟩
                · replace hc := (Bool.eq_false_iff.1 hc)
                  rw [if_neg hc] at h
                  have hc29 := hc
                  clear hc
                  refine WL.rest 38 [2] (L' := [(2, .bool false)]) (by kernel_rfl) ?_
                  refine QP.pick [2] ?_
                  exact QP.meet ⟨_, Option.some.inj h, rfl, rfl, rfl⟩
              · replace hc := ne_of_beq_false hc
                rw [if_neg hc] at h
                have hc24 := hc
                clear hc
                refine WL.rest 30 [2] (L' := [(2, .bool false)]) (by kernel_rfl) ?_
                refine QP.pick [2] ?_
                exact QP.meet ⟨_, Option.some.inj h, rfl, rfl, rfl⟩
            · replace hc := (Bool.eq_false_iff.1 hc)
              rw [if_neg hc] at h
              have hc19 := hc
              clear hc
              refine WL.rest 24 [2] (L' := [(2, .bool false)]) (by kernel_rfl) ?_
              refine QP.pick [2] ?_
              exact QP.meet ⟨_, Option.some.inj h, rfl, rfl, rfl⟩
          · replace hc := (Bool.eq_false_iff.1 hc)
            rw [if_neg hc] at h
            have hc14 := hc
            clear hc
            refine WL.rest 18 [2] (L' := [(2, .bool false)]) (by kernel_rfl) ?_
            refine QP.pick [2] ?_
            exact QP.meet ⟨_, Option.some.inj h, rfl, rfl, rfl⟩
        · replace hc := ne_of_beq_false hc
          rw [if_neg hc] at h
          have hc13 := hc
          clear hc
          refine WL.rest 14 [2] (L' := [(2, .bool false)]) (by kernel_rfl) ?_
          refine QP.pick [2] ?_
          exact QP.meet ⟨_, Option.some.inj h, rfl, rfl, rfl⟩
      · replace hc := ne_of_beq_false hc
        rw [if_neg hc] at h
        have hc12 := hc
        clear hc
        refine WL.rest 9 [2] (L' := [(2, .bool false)]) (by kernel_rfl) ?_
        refine QP.pick [2] ?_
        exact QP.meet ⟨_, Option.some.inj h, rfl, rfl, rfl⟩
    · replace hc := ne_of_beq_false hc
      rw [if_neg hc] at h
      have hc11 := hc
      clear hc
      refine WL.rest 5 [2] (L' := [(2, .bool false)]) (by kernel_rfl) ?_
      refine QP.pick [2] ?_
      exact QP.meet ⟨_, Option.some.inj h, rfl, rfl, rfl⟩
  · rintro _ _ _ ⟨s5, rfl, rfl, rfl, rfl⟩
    clear h
    replace h := hk6
    refine WP.ret ?_
    obtain rfl := Option.some.inj h
    exact QP.returned [2] [.bool s5] _ (by kernel_rfl) (by kernel_rfl) (by kernel_rfl) (fun W hI => ⟨_, _, _, rfl, ⟨rfl, rfl, rfl⟩, hI⟩)
/-- The plain law. -/
def BagNone_Pure : Prop := ∀ (a0 : Int), (Lit.int .i64 a0).wf = true → ∃ k, grapevinelaw22_BagNone k a0 = some true
end Go.Proofs.Ytmphcmgbognmnaa.Gf
