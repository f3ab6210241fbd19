/- Walks of Go functions: what each tells, as a plain Lean function, and that the Go code comes to it. Written by gg.py of this repo. -/
import Derived.Test.YtanogihdhnhpaaaT
import Derived.Test.YtanogihdhnhpaaaF0
namespace Go.Proofs.Ytanogihdhnhpaaa.Gf
open Go Go.Gg
set_option maxRecDepth 100000
set_option linter.unusedVariables false
set_option linter.unusedSimpArgs false

/-! ### grapevine/grapevinelaw5.DigestZero: function 5 -/
def grapevinelaw5_DigestZero_l1 (a2 : Int) (t1 : Int) (t3 : Int) (y29 : Int) : Nat → (List Int) → Int → Option (List Int)
  | 0, _, _ => none
  | k + 1, y35, y36 => (if y36 ≥ 0 then (if 0 ≤ y29 ∧ y29 < (((List.replicate (IntKind.i64.wrap (1 + t1)).toNat (0 : Int)).set t3.toNat a2).length : Int) then (if 0 ≤ (IntKind.i64.wrap (8 * y36)) then (if y35.length + ([IntKind.u8.wrap (shrK .u64 (((List.replicate (IntKind.i64.wrap (1 + t1)).toNat (0 : Int)).set t3.toNat a2).getD y29.toNat 0) (IntKind.i64.wrap (8 * y36)))] : List Int).length ≤ 1073741824 then grapevinelaw5_DigestZero_l1 a2 t1 t3 y29 k (y35 ++ ([IntKind.u8.wrap (shrK .u64 (((List.replicate (IntKind.i64.wrap (1 + t1)).toNat (0 : Int)).set t3.toNat a2).getD y29.toNat 0) (IntKind.i64.wrap (8 * y36)))] : List Int)) (IntKind.i64.wrap (y36 - 1)) else none) else none) else none) else some y35)
def grapevinelaw5_DigestZero_l0 (a2 : Int) (t1 : Int) (t3 : Int) : Nat → (List Int) → Int → Option (List Int)
  | 0, _, _ => none
  | k + 1, y28, y29 => (if y29 < (IntKind.i64.wrap (1 + t1)) then ((grapevinelaw5_DigestZero_l1 a2 t1 t3 y29 k y28 7).bind fun s33 => grapevinelaw5_DigestZero_l0 a2 t1 t3 k s33 (IntKind.i64.wrap (y29 + 1))) else some y28)
def grapevinelaw5_DigestZero (k : Nat) (a0 : Int) (a1 : Int) (a2 : Int) : Option Bool := ((grapevinelaw0_Low a0 40).bind fun t1 => ((grapevinelaw0_Low a1 (IntKind.i64.wrap (1 + t1))).bind fun t3 => (if 0 ≤ (IntKind.i64.wrap (1 + t1)) ∧ (IntKind.i64.wrap (1 + t1)) ≤ (IntKind.i64.wrap (1 + t1)) ∧ (IntKind.i64.wrap (1 + t1)) ≤ 1073741824 then (((digest_All k (List.replicate (IntKind.i64.wrap (1 + t1)).toNat (0 : Int))).bind fun t10 => (if ¬ t10 = 0 then some true else some (a2 == 0))).bind fun s8 => (if s8 = true then (((digest_All k (List.replicate (IntKind.i64.wrap (1 + t1)).toNat (0 : Int))).bind fun t17 => (if t17 = 0 then ((grapevinelaw5_awake k ).bind fun t21 => some t21) else some false)).bind fun s15 => some s15) else (if 0 ≤ t3 ∧ t3 < ((List.replicate (IntKind.i64.wrap (1 + t1)).toNat (0 : Int)).length : Int) then ((grapevinelaw5_DigestZero_l0 a2 t1 t3 k ([] : List Int) 0).bind fun s26 => (((digest_All k ((List.replicate (IntKind.i64.wrap (1 + t1)).toNat (0 : Int)).set t3.toNat a2)).bind fun t49 => ((digest_Of k ([s26] : List (List Int))).bind fun t60 => (if t49 = t60 then ((grapevinelaw5_awake k ).bind fun t64 => some t64) else some false))).bind fun s47 => some s47)) else none))) else none)))
set_option maxHeartbeats 4000000 in
theorem grapevinelaw5_DigestZero_calls {B : World} {G : GMap} {Γ : List Chunk} {W : World} (k : Nat) (a0 : Int) (a1 : Int) (a2 : Int) (r : Bool) (h : grapevinelaw5_DigestZero k a0 a1 a2 = some r) (hI : Inv B G (Γ) W) :
    Calls Try.prog 5 [.int .i64 a0, .int .i64 a1, .int .u64 a2].toArray W (Ret B (fun v G' Γ' => v = .bool r ∧ G = G' ∧ Γ = Γ')) := by
  refine calls_WP (Γ := Γ) (G := G) (B := B) Try.func5 rfl (by kernel_rfl) ?_ hI
  clear hI
  unfold grapevinelaw5_DigestZero at h
  refine WP.seqP [0, 1, 2] (L' := [(0, .int .i64 a0), (1, .int .i64 a1), (2, .int .u64 a2)]) (by kernel_rfl) ?_
  refine WP.seqR ?_
  refine WL.pure 0 1 [0, 1, 2, 11] (L' := [(0, .int .i64 a0), (1, .int .i64 a1), (2, .int .u64 a2), (11, .int .i64 a0)]) (by kernel_rfl) (by decide) ?_
  rw [Option.bind_eq_some_iff] at h
  obtain ⟨t1, ht2, h⟩ := h
  refine WL.op (op := .call { callee := (.value (.func 17)), args := #[(.tmp 11), (.const (.int .i64 40))], argTypes := #[3, 3] }) (ty := 3) (d := some 12) (g := none) (by kernel_rfl) (by kernel_rfl) (by kernel_rfl) (Does.call (f := 17) (args := [.int .i64 a0, .int .i64 40]) (by kernel_rfl) (fun W hI => (grapevinelaw0_Low_calls a0 40  t1 ht2 hI))) ?_
  rintro _ _ _ ⟨rfl, rfl, rfl⟩
  refine WL.restQ 2 [0, 1, 2] (L' := [(0, .int .i64 (IntKind.i64.wrap (1 + t1))), (1, .int .i64 a1), (2, .int .u64 a2)]) (by kernel_rfl) ?_
  refine WP.seqR ?_
  refine WL.pure 0 2 [0, 1, 2, 14, 15] (L' := [(0, .int .i64 (IntKind.i64.wrap (1 + t1))), (1, .int .i64 a1), (2, .int .u64 a2), (14, .int .i64 a1), (15, .int .i64 (IntKind.i64.wrap (1 + t1)))]) (by kernel_rfl) (by decide) ?_
  rw [Option.bind_eq_some_iff] at h
  obtain ⟨t3, ht4, h⟩ := h
  refine WL.op (op := .call { callee := (.value (.func 17)), args := #[(.tmp 14), (.tmp 15)], argTypes := #[3, 3] }) (ty := 3) (d := some 16) (g := none) (by kernel_rfl) (by kernel_rfl) (by kernel_rfl) (Does.call (f := 17) (args := [.int .i64 a1, .int .i64 (IntKind.i64.wrap (1 + t1))]) (by kernel_rfl) (fun W hI => (grapevinelaw0_Low_calls a1 (IntKind.i64.wrap (1 + t1))  t3 ht4 hI))) ?_
  rintro _ _ _ ⟨rfl, rfl, rfl⟩
  refine WL.restQ 3 [0, 1, 2] (L' := [(0, .int .i64 (IntKind.i64.wrap (1 + t1))), (1, .int .i64 t3), (2, .int .u64 a2)]) (by kernel_rfl) ?_
  refine WP.seqR ?_
  refine WL.pure 0 1 [0, 1, 2, 17] (L' := [(0, .int .i64 (IntKind.i64.wrap (1 + t1))), (1, .int .i64 t3), (2, .int .u64 a2), (17, .int .i64 (IntKind.i64.wrap (1 + t1)))]) (by kernel_rfl) (by decide) ?_
  by_cases hb5 : 0 ≤ (IntKind.i64.wrap (1 + t1)) ∧ (IntKind.i64.wrap (1 + t1)) ≤ (IntKind.i64.wrap (1 + t1)) ∧ (IntKind.i64.wrap (1 + t1)) ≤ 1073741824
  case neg => rw [if_neg hb5] at h; cases h
  rw [if_pos hb5] at h
  refine WL.op (op := .makeSlice 23 (.tmp 17) (.tmp 17)) (ty := 23) (d := some 18) (g := none) (by kernel_rfl) (by kernel_rfl) (by kernel_rfl) (Does.make (kd := (kInt .u64)) (k := .i64) (k' := .i64) (l := (IntKind.i64.wrap (1 + t1))) (c := (IntKind.i64.wrap (1 + t1))) (z := 0) (zv := .int .u64 0) (by kernel_rfl) (by kernel_rfl) hb5.1 hb5.2.1 sl23 (by decide) hb5.2.2 (by kernel_rfl) (fun _ => (by exact rfl))) ?_
  rintro _ _ _ ⟨rfl, AM6, cM6, CM6, rfl, he7, HM6, rfl⟩
  refine WL.restQ 2 [0, 1, 2, 7] (L' := [(0, .int .i64 (IntKind.i64.wrap (1 + t1))), (1, .int .i64 t3), (2, .int .u64 a2), (7, .slice AM6 (List.replicate (IntKind.i64.wrap (1 + t1)).toNat (0 : Int)).length cM6)]) (by kernel_rfl) ?_
  refine WP.seq ?_
  rw [Option.bind_eq_some_iff] at h
  obtain ⟨os8, h, hk9⟩ := h
  refine WP.cut (fun L' G' Γ' => ∃ s8 : Bool, s8 = os8 ∧ L' = [(0, .int .i64 (IntKind.i64.wrap (1 + t1))), (1, .int .i64 t3), (2, .int .u64 a2), (7, .slice AM6 (List.replicate (IntKind.i64.wrap (1 + t1)).toNat (0 : Int)).length cM6), (25, .bool s8)] ∧ G = G' ∧ CM6 :: Γ = Γ') ?_ ?_
  · clear hk9
    refine WP.region ?_
    refine WL.pure 0 1 [0, 1, 2, 7, 19] (L' := [(0, .int .i64 (IntKind.i64.wrap (1 + t1))), (1, .int .i64 t3), (2, .int .u64 a2), (7, .slice AM6 (List.replicate (IntKind.i64.wrap (1 + t1)).toNat (0 : Int)).length cM6), (19, .slice AM6 (List.replicate (IntKind.i64.wrap (1 + t1)).toNat (0 : Int)).length cM6)]) (by kernel_rfl) (by decide) ?_
    rw [Option.bind_eq_some_iff] at h
    obtain ⟨t10, ht11, h⟩ := h
    refine WL.op (op := .call { callee := (.value (.func 15)), args := #[(.tmp 19)], argTypes := #[23] }) (ty := 26) (d := some 20) (g := none) (by kernel_rfl) (by kernel_rfl) (by kernel_rfl) (Does.call (Φ := fun v' G' Γ' => v' = .int .u64 t10 ∧ G = G' ∧ CM6 :: Γ = Γ') (f := 15) (args := [.slice AM6 (List.replicate (IntKind.i64.wrap (1 + t1)).toNat (0 : Int)).length cM6]) (by kernel_rfl) (fun W hI => Calls.lend (i := 0) rfl (Ow.nodup HM6) hI (fun _ e l12 hI => by subst e; exact (digest_All_calls k (List.replicate (IntKind.i64.wrap (1 + t1)).toNat (0 : Int)) AM6 cM6 (HM6.rd l12) t10 ht11 hI)))) ?_
    rintro _ _ _ ⟨rfl, rfl, rfl⟩
    refine WL.pure 2 4 [0, 1, 2, 7, 22] (L' := [(0, .int .i64 (IntKind.i64.wrap (1 + t1))), (1, .int .i64 t3), (2, .int .u64 a2), (7, .slice AM6 (List.replicate (IntKind.i64.wrap (1 + t1)).toNat (0 : Int)).length cM6), (22, .bool (t10 != 0))]) (by kernel_rfl) (by decide) ?_
    refine WL.split 22 (b := (t10 != 0)) (by kernel_rfl) (fun hc => ?_) (fun hc => ?_)
    · replace hc := (bne_iff_ne.1 hc)
      rw [if_pos hc] at h
      have hc13 := hc
      clear hc
      refine WL.rest 4 [0, 1, 2, 7, 25] (L' := [(0, .int .i64 (IntKind.i64.wrap (1 + t1))), (1, .int .i64 t3), (2, .int .u64 a2), (7, .slice AM6 (List.replicate (IntKind.i64.wrap (1 + t1)).toNat (0 : Int)).length cM6), (25, .bool true)]) (by kernel_rfl) ?_
      refine QP.pick [0, 1, 2, 7, 25] ?_
      exact QP.meet ⟨_, Option.some.inj h, rfl, rfl, rfl⟩
    · replace hc := (not_not_intro (bne_eq_false_iff_eq.1 hc))
      rw [if_neg hc] at h
      have hc13 := hc
      clear hc
      refine WL.rest 4 [0, 1, 2, 7, 25] (L' := [(0, .int .i64 (IntKind.i64.wrap (1 + t1))), (1, .int .i64 t3), (2, .int .u64 a2), (7, .slice AM6 (List.replicate (IntKind.i64.wrap (1 + t1)).toNat (0 : Int)).length cM6), (25, .bool (a2 == 0))]) (by kernel_rfl) ?_
      refine QP.pick [0, 1, 2, 7, 25] ?_
      exact QP.meet ⟨_, Option.some.inj h, rfl, rfl, rfl⟩
  · rintro _ _ _ ⟨s8, rfl, rfl, rfl, rfl⟩
    clear h
    replace h := hk9
    refine WP.cond (b := s8) (by kernel_rfl) (fun hc => ?_) (fun hc => ?_)
    · replace hc := hc
      rw [if_pos hc] at h
      have hc14 := hc
      clear hc
      rw [Option.bind_eq_some_iff] at h
      obtain ⟨os15, h, hk16⟩ := h
      refine WP.cut (fun L' G' Γ' => ∃ s15 : Bool, s15 = os15 ∧ L' = [(6, .bool s15)] ∧ G = G' ∧ CM6 :: Γ = Γ') ?_ ?_
      · clear hk16
        refine WP.region ?_
        refine WL.pure 0 1 [26] (L' := [(26, .slice AM6 (List.replicate (IntKind.i64.wrap (1 + t1)).toNat (0 : Int)).length cM6)]) (by kernel_rfl) (by decide) ?_
        rw [Option.bind_eq_some_iff] at h
        obtain ⟨t17, ht18, h⟩ := h
        refine WL.op (op := .call { callee := (.value (.func 15)), args := #[(.tmp 26)], argTypes := #[23] }) (ty := 26) (d := some 27) (g := none) (by kernel_rfl) (by kernel_rfl) (by kernel_rfl) (Does.call (Φ := fun v' G' Γ' => v' = .int .u64 t17 ∧ G = G' ∧ CM6 :: Γ = Γ') (f := 15) (args := [.slice AM6 (List.replicate (IntKind.i64.wrap (1 + t1)).toNat (0 : Int)).length cM6]) (by kernel_rfl) (fun W hI => Calls.lend (i := 0) rfl (Ow.nodup HM6) hI (fun _ e l19 hI => by subst e; exact (digest_All_calls k (List.replicate (IntKind.i64.wrap (1 + t1)).toNat (0 : Int)) AM6 cM6 (HM6.rd l19) t17 ht18 hI)))) ?_
        rintro _ _ _ ⟨rfl, rfl, rfl⟩
        refine WL.pure 2 4 [29] (L' := [(29, .bool (t17 == 0))]) (by kernel_rfl) (by decide) ?_
        refine WL.split 29 (b := (t17 == 0)) (by kernel_rfl) (fun hc => ?_) (fun hc => ?_)
        · replace hc := eq_of_beq hc
          rw [if_pos hc] at h
          have hc20 := hc
          clear hc
          rw [Option.bind_eq_some_iff] at h
          obtain ⟨t21, ht22, h⟩ := h
          refine WL.op (op := .call { callee := (.value (.func 12)), args := #[], argTypes := #[] }) (ty := 4) (d := some 30) (g := some (3, true)) (by kernel_rfl) (by kernel_rfl) (by kernel_rfl) (Does.call (f := 12) (args := []) (by kernel_rfl) (fun W hI => (grapevinelaw5_awake_calls k   t21 ht22 hI))) ?_
          rintro _ _ _ ⟨rfl, rfl, rfl⟩
          refine WL.rest 5 [6] (L' := [(6, .bool t21)]) (by kernel_rfl) ?_
          refine QP.pick [6] ?_
          exact QP.meet ⟨_, Option.some.inj h, rfl, rfl, rfl⟩
        · replace hc := ne_of_beq_false hc
          rw [if_neg hc] at h
          have hc20 := hc
          clear hc
          refine WL.rest 4 [6] (L' := [(6, .bool false)]) (by kernel_rfl) ?_
          refine QP.pick [6] ?_
          exact QP.meet ⟨_, Option.some.inj h, rfl, rfl, rfl⟩
      · rintro _ _ _ ⟨s15, rfl, rfl, rfl, rfl⟩
        clear h
        replace h := hk16
        refine WP.ret ?_
        refine QP.thenR ?_
        obtain rfl := Option.some.inj h
        refine QP.dropAt 0 ?_
        exact QP.returned [6] [.bool s15] _ (by kernel_rfl) (by kernel_rfl) (by kernel_rfl) (fun W hI => ⟨_, _, _, rfl, ⟨rfl, rfl, rfl⟩, hI⟩)
    · replace hc := (Bool.eq_false_iff.1 hc)
      rw [if_neg hc] at h
      have hc14 := hc
      clear hc
      refine WP.skip ?_
      refine QP.next ?_
      refine WP.pick [0, 1, 2, 7] ?_
      refine WP.seqR ?_
      refine WL.pure 0 3 [0, 7, 32, 33, 34] (L' := [(0, .int .i64 (IntKind.i64.wrap (1 + t1))), (7, .slice AM6 (List.replicate (IntKind.i64.wrap (1 + t1)).toNat (0 : Int)).length cM6), (32, .slice AM6 (List.replicate (IntKind.i64.wrap (1 + t1)).toNat (0 : Int)).length cM6), (33, .int .i64 t3), (34, .int .u64 a2)]) (by kernel_rfl) (by decide) ?_
      by_cases hb23 : 0 ≤ t3 ∧ t3 < ((List.replicate (IntKind.i64.wrap (1 + t1)).toNat (0 : Int)).length : Int)
      case neg => rw [if_neg hb23] at h; cases h
      rw [if_pos hb23] at h
      refine WL.tell (op := .indexAddr 23 (.tmp 32) (.tmp 33)) (ty := 0) (d := some 35) (g := none) (by kernel_rfl) (by kernel_rfl) (by kernel_rfl) (Tells.indexAddr (A := AM6) (n := (List.replicate (IntKind.i64.wrap (1 + t1)).toNat (0 : Int)).length) (c := cM6) (k := .i64) (j := t3) (by kernel_rfl) (by kernel_rfl) (HM6.isSome hb23.1 hb23.2) hb23.1 hb23.2 sl23) ?_
      refine WL.op (op := .store 26 (.tmp 35) (.tmp 34)) (ty := 0) (d := none) (g := none) (by kernel_rfl) (by kernel_rfl) (by kernel_rfl) (Ow.store HM6 (i := 0) rfl hb23.1 hb23.2 (z := a2) (v := .int .u64 a2) (by kernel_rfl) (by kernel_rfl) sz26 (by exact rfl)) ?_
      rintro _ _ _ ⟨rfl, rfl, C24, Ho25, rfl⟩
      refine WL.reput 7 (v := .slice AM6 (List.replicate (IntKind.i64.wrap (1 + t1)).toNat (0 : Int)).length cM6) (v' := .slice AM6 ((List.replicate (IntKind.i64.wrap (1 + t1)).toNat (0 : Int)).set t3.toNat a2).length cM6) (by kernel_rfl) (by rw [List.length_set]) ?_
      refine WL.restQ 5 [0, 7] (L' := [(0, .int .i64 (IntKind.i64.wrap (1 + t1))), (7, .slice AM6 ((List.replicate (IntKind.i64.wrap (1 + t1)).toNat (0 : Int)).set t3.toNat a2).length cM6)]) (by kernel_rfl) ?_
      refine WP.seqP [0, 7, 8] (L' := [(0, .int .i64 (IntKind.i64.wrap (1 + t1))), (7, .slice AM6 ((List.replicate (IntKind.i64.wrap (1 + t1)).toNat (0 : Int)).set t3.toNat a2).length cM6), (8, .slice none 0 0)]) (by kernel_rfl) ?_
      refine WP.seq ?_
      refine WP.seqP [0, 7, 8, 9] (L' := [(0, .int .i64 (IntKind.i64.wrap (1 + t1))), (7, .slice AM6 ((List.replicate (IntKind.i64.wrap (1 + t1)).toNat (0 : Int)).set t3.toNat a2).length cM6), (8, .slice none 0 0), (9, .int .i64 0)]) (by kernel_rfl) ?_
      rw [Option.bind_eq_some_iff] at h
      obtain ⟨os26, h, hk27⟩ := h
      refine WP.cutQ (fun L' G' Γ' => ∃ s26 : (List Int), s26 = os26 ∧ ∃ (As26 : Option Addr), ∃ (cs26 : Nat), ∃ (Cs26 : Chunk), L' = [(7, .slice AM6 ((List.replicate (IntKind.i64.wrap (1 + t1)).toNat (0 : Int)).set t3.toNat a2).length cM6), (8, .slice As26 s26.length cs26)] ∧ G = G' ∧ Cs26 :: C24 :: Γ = Γ' ∧ Ow (kInt .u8) G As26 cs26 s26 Cs26) ?_ ?_
      · clear hk27
        refine WP.block ?_
        refine WP.addNil ?_
        refine WP.pick [0, 7, 8, 9] ?_
        refine WP.loopF (fun k30 L' G' Γ' => ∃ (y28 : List Int), ∃ (y29 : Int), grapevinelaw5_DigestZero_l0 a2 t1 t3 k30 y28 y29 = some os26 ∧ ∃ (Ay28 : Option Addr), ∃ (cy28 : Nat), ∃ (Cy28 : Chunk), L' = [(0, .int .i64 (IntKind.i64.wrap (1 + t1))), (7, .slice AM6 ((List.replicate (IntKind.i64.wrap (1 + t1)).toNat (0 : Int)).set t3.toNat a2).length cM6), (8, .slice Ay28 y28.length cy28), (9, .int .i64 y29)] ∧ G = G' ∧ Cy28 :: C24 :: Γ = Γ' ∧ Ow (kInt .u8) G Ay28 cy28 y28 Cy28) ?_ k ⟨([] : List Int), 0, h, none, 0, [], rfl, rfl, rfl, (Ow.nil _ _)⟩
        clear h
        rintro k31 _ _ _ ⟨y28, y29, h, Ay28, cy28, Cy28, rfl, rfl, rfl, Hy28⟩
        cases k31 with
        | zero => exact absurd h (by simp [grapevinelaw5_DigestZero_l0])
        | succ k31 =>
          simp only [grapevinelaw5_DigestZero_l0] at h
          refine WP.seq ?_
          refine WP.seqP [0, 7, 8, 9, 38] (L' := [(0, .int .i64 (IntKind.i64.wrap (1 + t1))), (7, .slice AM6 ((List.replicate (IntKind.i64.wrap (1 + t1)).toNat (0 : Int)).set t3.toNat a2).length cM6), (8, .slice Ay28 y28.length cy28), (9, .int .i64 y29), (38, .bool (decide (y29 < (IntKind.i64.wrap (1 + t1)))))]) (by kernel_rfl) ?_
          refine WP.cond (b := decide (y29 < (IntKind.i64.wrap (1 + t1)))) (by kernel_rfl) (fun hc => ?_) (fun hc => ?_)
          · replace hc := of_decide_eq_true hc
            rw [if_pos hc] at h
            have hc32 := hc
            clear hc
            refine WP.skip ?_
            refine QP.next ?_
            refine WP.pick [0, 7, 8, 9] ?_
            refine WP.seq ?_
            refine WP.block ?_
            refine WP.seqP [0, 7, 8, 9, 10] (L' := [(0, .int .i64 (IntKind.i64.wrap (1 + t1))), (7, .slice AM6 ((List.replicate (IntKind.i64.wrap (1 + t1)).toNat (0 : Int)).set t3.toNat a2).length cM6), (8, .slice Ay28 y28.length cy28), (9, .int .i64 y29), (10, .int .i64 7)]) (by kernel_rfl) ?_
            rw [Option.bind_eq_some_iff] at h
            obtain ⟨os33, h, hk34⟩ := h
            refine WP.cutQ (fun L' G' Γ' => ∃ s33 : (List Int), s33 = os33 ∧ ∃ (As33 : Option Addr), ∃ (cs33 : Nat), ∃ (Cs33 : Chunk), L' = [(0, .int .i64 (IntKind.i64.wrap (1 + t1))), (7, .slice AM6 ((List.replicate (IntKind.i64.wrap (1 + t1)).toNat (0 : Int)).set t3.toNat a2).length cM6), (8, .slice As33 s33.length cs33), (9, .int .i64 y29)] ∧ G = G' ∧ Cs33 :: C24 :: Γ = Γ' ∧ Ow (kInt .u8) G As33 cs33 s33 Cs33) ?_ ?_
            · clear hk34
              refine WP.block ?_
              refine WP.pick [0, 7, 8, 9, 10] ?_
              refine WP.loopF (fun k37 L' G' Γ' => ∃ (y35 : List Int), ∃ (y36 : Int), grapevinelaw5_DigestZero_l1 a2 t1 t3 y29 k37 y35 y36 = some os33 ∧ ∃ (Ay35 : Option Addr), ∃ (cy35 : Nat), ∃ (Cy35 : Chunk), L' = [(0, .int .i64 (IntKind.i64.wrap (1 + t1))), (7, .slice AM6 ((List.replicate (IntKind.i64.wrap (1 + t1)).toNat (0 : Int)).set t3.toNat a2).length cM6), (8, .slice Ay35 y35.length cy35), (9, .int .i64 y29), (10, .int .i64 y36)] ∧ G = G' ∧ Cy35 :: C24 :: Γ = Γ' ∧ Ow (kInt .u8) G Ay35 cy35 y35 Cy35) ?_ k31 ⟨y28, 7, h, Ay28, cy28, Cy28, rfl, rfl, rfl, Hy28⟩
              clear h
              rintro k38 _ _ _ ⟨y35, y36, h, Ay35, cy35, Cy35, rfl, rfl, rfl, Hy35⟩
              cases k38 with
              | zero => exact absurd h (by simp [grapevinelaw5_DigestZero_l1])
              | succ k38 =>
                simp only [grapevinelaw5_DigestZero_l1] at h
                refine WP.seq ?_
                refine WP.seqP [0, 7, 8, 9, 10, 42] (L' := [(0, .int .i64 (IntKind.i64.wrap (1 + t1))), (7, .slice AM6 ((List.replicate (IntKind.i64.wrap (1 + t1)).toNat (0 : Int)).set t3.toNat a2).length cM6), (8, .slice Ay35 y35.length cy35), (9, .int .i64 y29), (10, .int .i64 y36), (42, .bool (decide (y36 ≥ 0)))]) (by kernel_rfl) ?_
                refine WP.cond (b := decide (y36 ≥ 0)) (by kernel_rfl) (fun hc => ?_) (fun hc => ?_)
                · replace hc := of_decide_eq_true hc
                  rw [if_pos hc] at h
                  have hc39 := hc
                  clear hc
                  refine WP.skip ?_
                  refine QP.next ?_
                  refine WP.pick [0, 7, 8, 9, 10] ?_
                  refine WP.seq ?_
                  refine WP.block ?_
                  refine WP.region ?_
                  refine WL.pure 0 3 [0, 7, 8, 9, 10, 45, 46, 47] (L' := [(0, .int .i64 (IntKind.i64.wrap (1 + t1))), (7, .slice AM6 ((List.replicate (IntKind.i64.wrap (1 + t1)).toNat (0 : Int)).set t3.toNat a2).length cM6), (8, .slice Ay35 y35.length cy35), (9, .int .i64 y29), (10, .int .i64 y36), (45, .slice Ay35 y35.length cy35), (46, .slice AM6 ((List.replicate (IntKind.i64.wrap (1 + t1)).toNat (0 : Int)).set t3.toNat a2).length cM6), (47, .int .i64 y29)]) (by kernel_rfl) (by decide) ?_
                  by_cases hb40 : 0 ≤ y29 ∧ y29 < (((List.replicate (IntKind.i64.wrap (1 + t1)).toNat (0 : Int)).set t3.toNat a2).length : Int)
                  case neg => rw [if_neg hb40] at h; cases h
                  rw [if_pos hb40] at h
                  refine WL.tell (op := .indexAddr 23 (.tmp 46) (.tmp 47)) (ty := 0) (d := some 48) (g := none) (by kernel_rfl) (by kernel_rfl) (by kernel_rfl) (Tells.indexAddr (A := AM6) (n := ((List.replicate (IntKind.i64.wrap (1 + t1)).toNat (0 : Int)).set t3.toNat a2).length) (c := cM6) (k := .i64) (j := y29) (by kernel_rfl) (by kernel_rfl) (Ho25.isSome hb40.1 hb40.2) hb40.1 hb40.2 sl23) ?_
                  refine WL.tellE (op := .load 26 (.tmp 48)) (ty := 26) (d := some 49) (g := none) (by kernel_rfl) (by kernel_rfl) (by kernel_rfl) (Ho25.load (i := 1) rfl (agg := false) hb40.1 hb40.2 0 ag26 (fun _ => rfl) (by kernel_rfl)) ?_
                  rintro _ rfl
                  refine WL.pure 5 7 [0, 7, 8, 9, 10, 45, 49, 51] (L' := [(0, .int .i64 (IntKind.i64.wrap (1 + t1))), (7, .slice AM6 ((List.replicate (IntKind.i64.wrap (1 + t1)).toNat (0 : Int)).set t3.toNat a2).length cM6), (8, .slice Ay35 y35.length cy35), (9, .int .i64 y29), (10, .int .i64 y36), (45, .slice Ay35 y35.length cy35), (49, .int .u64 (((List.replicate (IntKind.i64.wrap (1 + t1)).toNat (0 : Int)).set t3.toNat a2).getD y29.toNat 0)), (51, .int .i64 (IntKind.i64.wrap (8 * y36)))]) (by kernel_rfl) (by decide) ?_
                  by_cases hb41 : 0 ≤ (IntKind.i64.wrap (8 * y36))
                  case neg => rw [if_neg hb41] at h; cases h
                  rw [if_pos hb41] at h
                  refine WL.tell (op := .binOp .shr 26 (.tmp 49) (.tmp 51) 3) (ty := 26) (d := some 52) (g := none) (by kernel_rfl) (by kernel_rfl) (by kernel_rfl) (Tells.shr (k := .u64) (k' := .i64) (a := (((List.replicate (IntKind.i64.wrap (1 + t1)).toNat (0 : Int)).set t3.toNat a2).getD y29.toNat 0)) (b := (IntKind.i64.wrap (8 * y36))) (by kernel_rfl) (by kernel_rfl) hb41) ?_
                  refine WL.pure 8 9 [0, 7, 8, 9, 10, 45, 53] (L' := [(0, .int .i64 (IntKind.i64.wrap (1 + t1))), (7, .slice AM6 ((List.replicate (IntKind.i64.wrap (1 + t1)).toNat (0 : Int)).set t3.toNat a2).length cM6), (8, .slice Ay35 y35.length cy35), (9, .int .i64 y29), (10, .int .i64 y36), (45, .slice Ay35 y35.length cy35), (53, .int .u8 (IntKind.u8.wrap (shrK .u64 (((List.replicate (IntKind.i64.wrap (1 + t1)).toNat (0 : Int)).set t3.toNat a2).getD y29.toNat 0) (IntKind.i64.wrap (8 * y36)))))]) (by kernel_rfl) (by decide) ?_
                  refine WL.op (op := .buildSlice 32 1 #[(0, (.tmp 53))]) (ty := 32) (d := some 54) (g := none) (by kernel_rfl) (by kernel_rfl) (by kernel_rfl) (Does.new (o := .cells #[.int .u8 (IntKind.u8.wrap (shrK .u64 (((List.replicate (IntKind.i64.wrap (1 + t1)).toNat (0 : Int)).set t3.toNat a2).getD y29.toNat 0) (IntKind.i64.wrap (8 * y36))))] 5 (0, 0)) (v := fun r => .slice (some ⟨r, 0, none⟩) 1 1) (fun r => by kernel_rfl)) ?_
                  rintro _ _ _ ⟨b42, rfl, rfl, rfl⟩
                  have Ho44 : Ow (kInt .u8) G (some ⟨b42, 0, none⟩) 1 ([IntKind.u8.wrap (shrK .u64 (((List.replicate (IntKind.i64.wrap (1 + t1)).toNat (0 : Int)).set t3.toNat a2).getD y29.toNat 0) (IntKind.i64.wrap (8 * y36)))] : List Int) [(b42, .cells #[.int .u8 (IntKind.u8.wrap (shrK .u64 (((List.replicate (IntKind.i64.wrap (1 + t1)).toNat (0 : Int)).set t3.toNat a2).getD y29.toNat 0) (IntKind.i64.wrap (8 * y36))))] 5 (0, 0))] := Ow.lit (kd := (kInt .u8)) (G := G) (b := b42) (T := 5) (xs := ([IntKind.u8.wrap (shrK .u64 (((List.replicate (IntKind.i64.wrap (1 + t1)).toNat (0 : Int)).set t3.toNat a2).getD y29.toNat 0) (IntKind.i64.wrap (8 * y36)))] : List Int)) (cs := [.int .u8 (IntKind.u8.wrap (shrK .u64 (((List.replicate (IntKind.i64.wrap (1 + t1)).toNat (0 : Int)).set t3.toNat a2).getD y29.toNat 0) (IntKind.i64.wrap (8 * y36))))]) (.cons (x := (IntKind.u8.wrap (shrK .u64 (((List.replicate (IntKind.i64.wrap (1 + t1)).toNat (0 : Int)).set t3.toNat a2).getD y29.toNat 0) (IntKind.i64.wrap (8 * y36))))) (cs := [.int .u8 (IntKind.u8.wrap (shrK .u64 (((List.replicate (IntKind.i64.wrap (1 + t1)).toNat (0 : Int)).set t3.toNat a2).getD y29.toNat 0) (IntKind.i64.wrap (8 * y36))))]) (by exact rfl) .nil)
                  by_cases hb45 : y35.length + ([IntKind.u8.wrap (shrK .u64 (((List.replicate (IntKind.i64.wrap (1 + t1)).toNat (0 : Int)).set t3.toNat a2).getD y29.toNat 0) (IntKind.i64.wrap (8 * y36)))] : List Int).length ≤ 1073741824
                  case neg => rw [if_neg hb45] at h; cases h
                  rw [if_pos hb45] at h
                  refine WL.op (op := .call { callee := (.builtin .append), args := #[(.tmp 45), (.tmp 54)], argTypes := #[32, 32] }) (ty := 32) (d := some 55) (g := none) (by kernel_rfl) (by kernel_rfl) (by kernel_rfl) (Ow.append (ys := ([IntKind.u8.wrap (shrK .u64 (((List.replicate (IntKind.i64.wrap (1 + t1)).toNat (0 : Int)).set t3.toNat a2).getD y29.toNat 0) (IntKind.i64.wrap (8 * y36)))] : List Int)) (v := .slice (some ⟨b42, 0, none⟩) ([IntKind.u8.wrap (shrK .u64 (((List.replicate (IntKind.i64.wrap (1 + t1)).toNat (0 : Int)).set t3.toNat a2).getD y29.toNat 0) (IntKind.i64.wrap (8 * y36)))] : List Int).length 1) Hy35 (i := 1) rfl (by kernel_rfl) (by kernel_rfl) (Ho44.src (i := 0) rfl) sl32 ze5 nt32 (by decide) hb45) ?_
                  rintro _ _ _ ⟨rfl, AN46, cN46, CN46, rfl, HN46, rfl⟩
                  refine WL.rest 11 [0, 7, 8, 9, 10] (L' := [(0, .int .i64 (IntKind.i64.wrap (1 + t1))), (7, .slice AM6 ((List.replicate (IntKind.i64.wrap (1 + t1)).toNat (0 : Int)).set t3.toNat a2).length cM6), (8, .slice AN46 (y35 ++ ([IntKind.u8.wrap (shrK .u64 (((List.replicate (IntKind.i64.wrap (1 + t1)).toNat (0 : Int)).set t3.toNat a2).getD y29.toNat 0) (IntKind.i64.wrap (8 * y36)))] : List Int)).length cN46), (9, .int .i64 y29), (10, .int .i64 y36)]) (by kernel_rfl) ?_
                  refine QP.blockN ?_
                  refine QP.next ?_
                  refine WP.pick [0, 7, 8, 9, 10] ?_
                  refine WP.regionP [0, 7, 8, 9, 10] (L' := [(0, .int .i64 (IntKind.i64.wrap (1 + t1))), (7, .slice AM6 ((List.replicate (IntKind.i64.wrap (1 + t1)).toNat (0 : Int)).set t3.toNat a2).length cM6), (8, .slice AN46 (y35 ++ ([IntKind.u8.wrap (shrK .u64 (((List.replicate (IntKind.i64.wrap (1 + t1)).toNat (0 : Int)).set t3.toNat a2).getD y29.toNat 0) (IntKind.i64.wrap (8 * y36)))] : List Int)).length cN46), (9, .int .i64 y29), (10, .int .i64 (IntKind.i64.wrap (y36 - 1)))]) (by kernel_rfl) ?_
                  refine QP.dropAt 0 ?_
                  refine QP.pick [0, 7, 8, 9, 10] ?_
                  exact QP.meet ⟨k38, Nat.lt_succ_self _, (y35 ++ ([IntKind.u8.wrap (shrK .u64 (((List.replicate (IntKind.i64.wrap (1 + t1)).toNat (0 : Int)).set t3.toNat a2).getD y29.toNat 0) (IntKind.i64.wrap (8 * y36)))] : List Int)), (IntKind.i64.wrap (y36 - 1)), h, AN46, cN46, CN46, rfl, rfl, rfl, HN46⟩
                · replace hc := of_decide_eq_false hc
                  rw [if_neg hc] at h
                  have hc39 := hc
                  clear hc
                  refine WP.exit ?_
                  refine QP.thenE ?_
                  refine QP.thenE ?_
                  refine QP.blockE ?_
                  refine QP.pick [0, 7, 8, 9] ?_
                  exact QP.meet ⟨_, Option.some.inj h, Ay35, cy35, Cy35, rfl, rfl, rfl, Hy35⟩
            · rintro _ _ _ ⟨s33, rfl, As33, cs33, Cs33, rfl, rfl, rfl, Hs33⟩
              clear h
              replace h := hk34
              refine QP.blockN ?_
              refine QP.next ?_
              refine WP.pick [0, 7, 8, 9] ?_
              refine WP.regionP [0, 7, 8, 9] (L' := [(0, .int .i64 (IntKind.i64.wrap (1 + t1))), (7, .slice AM6 ((List.replicate (IntKind.i64.wrap (1 + t1)).toNat (0 : Int)).set t3.toNat a2).length cM6), (8, .slice As33 s33.length cs33), (9, .int .i64 (IntKind.i64.wrap (y29 + 1)))]) (by kernel_rfl) ?_
              refine QP.pick [0, 7, 8, 9] ?_
              exact QP.meet ⟨k31, Nat.lt_succ_self _, s33, (IntKind.i64.wrap (y29 + 1)), h, As33, cs33, Cs33, rfl, rfl, rfl, Hs33⟩
          · replace hc := of_decide_eq_false hc
            rw [if_neg hc] at h
            have hc32 := hc
            clear hc
            refine WP.exit ?_
            refine QP.thenE ?_
            refine QP.thenE ?_
            refine QP.blockE ?_
            refine QP.pick [7, 8] ?_
            exact QP.meet ⟨_, Option.some.inj h, Ay28, cy28, Cy28, rfl, rfl, rfl, Hy28⟩
      · rintro _ _ _ ⟨s26, rfl, As26, cs26, Cs26, rfl, rfl, rfl, Hs26⟩
        clear h
        replace h := hk27
        refine QP.next ?_
        refine WP.pick [7, 8] ?_
        rw [Option.bind_eq_some_iff] at h
        obtain ⟨os47, h, hk48⟩ := h
        refine WP.cut (fun L' G' Γ' => ∃ s47 : Bool, s47 = os47 ∧ L' = [(6, .bool s47)] ∧ G = G' ∧ C24 :: Γ = Γ') ?_ ?_
        · clear hk48
          refine WP.region ?_
          refine WL.pure 0 1 [8, 56] (L' := [(8, .slice As26 s26.length cs26), (56, .slice AM6 ((List.replicate (IntKind.i64.wrap (1 + t1)).toNat (0 : Int)).set t3.toNat a2).length cM6)]) (by kernel_rfl) (by decide) ?_
          rw [Option.bind_eq_some_iff] at h
          obtain ⟨t49, ht50, h⟩ := h
          refine WL.op (op := .call { callee := (.value (.func 15)), args := #[(.tmp 56)], argTypes := #[23] }) (ty := 26) (d := some 57) (g := none) (by kernel_rfl) (by kernel_rfl) (by kernel_rfl) (Does.call (Φ := fun v' G' Γ' => v' = .int .u64 t49 ∧ G = G' ∧ Cs26 :: C24 :: Γ = Γ') (f := 15) (args := [.slice AM6 ((List.replicate (IntKind.i64.wrap (1 + t1)).toNat (0 : Int)).set t3.toNat a2).length cM6]) (by kernel_rfl) (fun W hI => Calls.lend (i := 1) rfl (Ow.nodup Ho25) hI (fun _ e l51 hI => by subst e; exact (digest_All_calls k ((List.replicate (IntKind.i64.wrap (1 + t1)).toNat (0 : Int)).set t3.toNat a2) AM6 cM6 (Ho25.rd l51) t49 ht50 hI)))) ?_
          rintro _ _ _ ⟨rfl, rfl, rfl⟩
          refine WL.pure 2 3 [57, 58] (L' := [(57, .int .u64 t49), (58, .slice As26 s26.length cs26)]) (by kernel_rfl) (by decide) ?_
          refine WL.freeze (i := 0) rfl (fun G55 hG56 hle57 => ?_)
          have Hz58 := Hs26.rd (by rw [← hG56]; exact hle57)
          rw [← hG56] at Hz58
          have Hm59 := Ho25.mono hle57
          refine WL.op (op := .buildSlice 22 1 #[(0, (.tmp 58))]) (ty := 22) (d := some 59) (g := none) (by kernel_rfl) (by kernel_rfl) (by kernel_rfl) (Does.new (o := .cells #[.slice As26 s26.length cs26] 32 (0, 0)) (v := fun r => .slice (some ⟨r, 0, none⟩) 1 1) (fun r => by kernel_rfl)) ?_
          rintro _ _ _ ⟨b52, rfl, rfl, rfl⟩
          have Ho54 : Ow (kSlice (kInt .u8)) G55 (some ⟨b52, 0, none⟩) 1 ([s26] : List (List Int)) [(b52, .cells #[.slice As26 s26.length cs26] 32 (0, 0))] := Ow.lit (kd := (kSlice (kInt .u8))) (G := G55) (b := b52) (T := 32) (xs := ([s26] : List (List Int))) (cs := [.slice As26 s26.length cs26]) (.cons (x := s26) (cs := [.slice As26 s26.length cs26]) ⟨As26, cs26, rfl, Hz58⟩ .nil)
          rw [Option.bind_eq_some_iff] at h
          obtain ⟨t60, ht61, h⟩ := h
          refine WL.op (op := .call { callee := (.value (.func 13)), args := #[(.tmp 59)], argTypes := #[22] }) (ty := 26) (d := some 60) (g := none) (by kernel_rfl) (by kernel_rfl) (by kernel_rfl) (Does.call (Φ := fun v' G' Γ' => v' = .int .u64 t60 ∧ G55 = G' ∧ [(b52, .cells #[.slice As26 s26.length cs26] 32 (0, 0))] :: [] :: C24 :: Γ = Γ') (f := 13) (args := [.slice (some ⟨b52, 0, none⟩) ([s26] : List (List Int)).length 1]) (by kernel_rfl) (fun W hI => Calls.lend (i := 0) rfl (Ow.nodup Ho54) hI (fun _ e l62 hI => by subst e; exact (digest_Of_calls k ([s26] : List (List Int)) (some ⟨b52, 0, none⟩) 1 (Ho54.rd l62) t60 ht61 hI)))) ?_
          rintro _ _ _ ⟨rfl, rfl, rfl⟩
          refine WL.pure 5 7 [62] (L' := [(62, .bool (t49 == t60))]) (by kernel_rfl) (by decide) ?_
          refine WL.split 62 (b := (t49 == t60)) (by kernel_rfl) (fun hc => ?_) (fun hc => ?_)
          · replace hc := eq_of_beq hc
            rw [if_pos hc] at h
            have hc63 := hc
            clear hc
            rw [Option.bind_eq_some_iff] at h
            obtain ⟨t64, ht65, h⟩ := h
            refine WL.op (op := .call { callee := (.value (.func 12)), args := #[], argTypes := #[] }) (ty := 4) (d := some 63) (g := some (6, true)) (by kernel_rfl) (by kernel_rfl) (by kernel_rfl) (Does.call (f := 12) (args := []) (by kernel_rfl) (fun W hI => (grapevinelaw5_awake_calls k   t64 ht65 hI))) ?_
            rintro _ _ _ ⟨rfl, rfl, rfl⟩
            refine WL.rest 8 [6] (L' := [(6, .bool t64)]) (by kernel_rfl) ?_
            refine QP.dropAt 1 ?_
            refine QP.dropAt 0 ?_
            refine QP.lower hle57 ?_
            refine QP.pick [6] ?_
            exact QP.meet ⟨_, Option.some.inj h, rfl, rfl, rfl⟩
          · replace hc := ne_of_beq_false hc
            rw [if_neg hc] at h
            have hc63 := hc
            clear hc
            refine WL.rest 7 [6] (L' := [(6, .bool false)]) (by kernel_rfl) ?_
            refine QP.dropAt 1 ?_
            refine QP.dropAt 0 ?_
            refine QP.lower hle57 ?_
            refine QP.pick [6] ?_
            exact QP.meet ⟨_, Option.some.inj h, rfl, rfl, rfl⟩
        · rintro _ _ _ ⟨s47, rfl, rfl, rfl, rfl⟩
          clear h
          replace h := hk48
          refine WP.ret ?_
          obtain rfl := Option.some.inj h
          refine QP.dropAt 0 ?_
          exact QP.returned [6] [.bool s47] _ (by kernel_rfl) (by kernel_rfl) (by kernel_rfl) (fun W hI => ⟨_, _, _, rfl, ⟨rfl, rfl, rfl⟩, hI⟩)
/-- The plain law. -/
def DigestZero_Pure : Prop := ∀ (a0 : Int) (a1 : Int) (a2 : Int), (Lit.int .i64 a0).wf = true → (Lit.int .i64 a1).wf = true → (Lit.int .u64 a2).wf = true → ∃ k, grapevinelaw5_DigestZero k a0 a1 a2 = some true
end Go.Proofs.Ytanogihdhnhpaaa.Gf
