/- Walks of Go functions: what each tells, as a plain Lean function, and that the Go code comes to it. Written by gg.py of this repo. -/
import Derived.Test.YtmphcmgbognmnaaT
import Derived.Test.YtmphcmgbognmnaaF0
namespace Go.Proofs.Ytmphcmgbognmnaa.Gf
open Go Go.Gg
set_option maxRecDepth 100000
set_option linter.unusedVariables false
set_option linter.unusedSimpArgs false

/-! ### grapevine/grapevinelaw3.VectorLacks: function 11 -/
def grapevinelaw3_VectorLacks_l0 (t1 : Int) (t3 : List Int) (t6 : List Int) (t9 : List Int) (t12 : List T63) : Nat → Int → Int → Option (Sum Bool Int)
  | 0, _, _ => none
  | k + 1, y20, y21 => (if y21 < (t12.length : Int) then (if 0 ≤ y21 ∧ y21 < (t12.length : Int) then ((if ((t12.getD y21.toNat z63).f0) < 0 then some true else (if ((t12.getD y21.toNat z63).f0) ≥ (IntKind.i64.wrap (1 + t1)) then some true else (if y21 > 0 then (if 0 ≤ (IntKind.i64.wrap (y21 - 1)) ∧ (IntKind.i64.wrap (y21 - 1)) < (t12.length : Int) then (if ((t12.getD y21.toNat z63).f0) ≤ ((t12.getD (IntKind.i64.wrap (y21 - 1)).toNat z63).f0) then some true else (if 0 ≤ y21 ∧ y21 < (t12.length : Int) then (if ((t12.getD y21.toNat z63).f2) < 1 then some true else (if 0 ≤ y21 ∧ y21 < (t12.length : Int) then (if 0 ≤ ((t12.getD y21.toNat z63).f0) ∧ ((t12.getD y21.toNat z63).f0) < (t6.length : Int) then (if 0 ≤ ((t12.getD y21.toNat z63).f0) ∧ ((t12.getD y21.toNat z63).f0) < (t9.length : Int) then (if ¬ ((t12.getD y21.toNat z63).f1) = (IntKind.i64.wrap ((if (t9.getD ((t12.getD y21.toNat z63).f0).toNat 0) > (t6.getD ((t12.getD y21.toNat z63).f0).toNat 0) then (t9.getD ((t12.getD y21.toNat z63).f0).toNat 0) else (t6.getD ((t12.getD y21.toNat z63).f0).toNat 0)) + 1)) then some true else (if 0 ≤ y21 ∧ y21 < (t12.length : Int) then (if 0 ≤ y21 ∧ y21 < (t12.length : Int) then (if 0 ≤ ((t12.getD y21.toNat z63).f0) ∧ ((t12.getD y21.toNat z63).f0) < (t3.length : Int) then some ((IntKind.i64.wrap ((IntKind.i64.wrap (((t12.getD y21.toNat z63).f1) + ((t12.getD y21.toNat z63).f2))) - 1)) != (t3.getD ((t12.getD y21.toNat z63).f0).toNat 0)) else none) else none) else none)) else none) else none) else none)) else none)) else none) else (if 0 ≤ y21 ∧ y21 < (t12.length : Int) then (if ((t12.getD y21.toNat z63).f2) < 1 then some true else (if 0 ≤ y21 ∧ y21 < (t12.length : Int) then (if 0 ≤ ((t12.getD y21.toNat z63).f0) ∧ ((t12.getD y21.toNat z63).f0) < (t6.length : Int) then (if 0 ≤ ((t12.getD y21.toNat z63).f0) ∧ ((t12.getD y21.toNat z63).f0) < (t9.length : Int) then (if ¬ ((t12.getD y21.toNat z63).f1) = (IntKind.i64.wrap ((if (t9.getD ((t12.getD y21.toNat z63).f0).toNat 0) > (t6.getD ((t12.getD y21.toNat z63).f0).toNat 0) then (t9.getD ((t12.getD y21.toNat z63).f0).toNat 0) else (t6.getD ((t12.getD y21.toNat z63).f0).toNat 0)) + 1)) then some true else (if 0 ≤ y21 ∧ y21 < (t12.length : Int) then (if 0 ≤ y21 ∧ y21 < (t12.length : Int) then (if 0 ≤ ((t12.getD y21.toNat z63).f0) ∧ ((t12.getD y21.toNat z63).f0) < (t3.length : Int) then some ((IntKind.i64.wrap ((IntKind.i64.wrap (((t12.getD y21.toNat z63).f1) + ((t12.getD y21.toNat z63).f2))) - 1)) != (t3.getD ((t12.getD y21.toNat z63).f0).toNat 0)) else none) else none) else none)) else none) else none) else none)) else none)))).bind fun s26 => (if s26 = true then some (Sum.inl false) else (if 0 ≤ y21 ∧ y21 < (t12.length : Int) then grapevinelaw3_VectorLacks_l0 t1 t3 t6 t9 t12 k (IntKind.i64.wrap (y20 + ((t12.getD y21.toNat z63).f2))) (IntKind.i64.wrap (y21 + 1)) else none))) else none) else some (Sum.inr y20))
def grapevinelaw3_VectorLacks (k : Nat) (l0 : List Int) (l1 : List Int) (l2 : List Int) (a3 : Int) : Option Bool := ((grapevinelaw0_Low a3 8).bind fun t1 => ((grapevinelaw3_low k l0 (IntKind.i64.wrap (1 + t1))).bind fun t3 => ((grapevinelaw3_low k l1 (IntKind.i64.wrap (1 + t1))).bind fun t6 => ((grapevinelaw3_low k l2 (IntKind.i64.wrap (1 + t1))).bind fun t9 => ((vector_Lack k t3 t6 t9).bind fun t12 => ((grapevinelaw3_VectorLacks_l0 t1 t3 t6 t9 t12 k 0 0).bind fun os18 => match os18 with | Sum.inl r => some r | Sum.inr s18 => ((vector_Join k ([t3, t6, t9] : List (List Int))).bind fun t56 => (((vector_Sum k t56).bind fun t65 => ((vector_Join k ([t6, t9] : List (List Int))).bind fun t71 => ((vector_Sum k t71).bind fun t77 => (if s18 = (IntKind.i64.wrap (t65 - t77)) then ((vector_Lack k t3 t56 t9).bind fun t81 => (if (t81.length : Int) = 0 then ((grapevinelaw3_awake k ).bind fun t88 => some t88) else some false)) else some false)))).bind fun s63 => some s63))))))))
set_option maxHeartbeats 4000000 in
theorem grapevinelaw3_VectorLacks_calls {B : World} {G : GMap} {Γ : List Chunk} {W : World} (k : Nat) (l0 : List Int) (l1 : List Int) (l2 : List Int) (a3 : Int) (Al0 : Option Addr) (cl0 : Nat) (Hl0 : Rd (kInt .i64) G Al0 cl0 l0) (Al1 : Option Addr) (cl1 : Nat) (Hl1 : Rd (kInt .i64) G Al1 cl1 l1) (Al2 : Option Addr) (cl2 : Nat) (Hl2 : Rd (kInt .i64) G Al2 cl2 l2) (r : Bool) (h : grapevinelaw3_VectorLacks k l0 l1 l2 a3 = some r) (hI : Inv B G (Γ) W) :
    Calls Try.prog 11 [.slice Al0 l0.length cl0, .slice Al1 l1.length cl1, .slice Al2 l2.length cl2, .int .i64 a3].toArray W (Ret B (fun v G' Γ' => v = .bool r ∧ G = G' ∧ Γ = Γ')) := by
  refine calls_WP (Γ := Γ) (G := G) (B := B) Try.func11 rfl (by kernel_rfl) ?_ hI
  clear hI
  unfold grapevinelaw3_VectorLacks at h
  refine WP.seqP [0, 1, 2, 3] (L' := [(0, .slice Al0 l0.length cl0), (1, .slice Al1 l1.length cl1), (2, .slice Al2 l2.length cl2), (3, .int .i64 a3)]) (by kernel_rfl) ?_
  refine WP.seqR ?_
  refine WL.pure 0 1 [0, 1, 2, 3, 17] (L' := [(0, .slice Al0 l0.length cl0), (1, .slice Al1 l1.length cl1), (2, .slice Al2 l2.length cl2), (3, .int .i64 a3), (17, .int .i64 a3)]) (by kernel_rfl) (by decide) ?_
  rw [Option.bind_eq_some_iff] at h
  obtain ⟨t1, ht2, h⟩ := h
  refine WL.op (op := .call { callee := (.value (.func 31)), args := #[(.tmp 17), (.const (.int .i64 8))], argTypes := #[3, 3] }) (ty := 3) (d := some 18) (g := none) (by kernel_rfl) (by kernel_rfl) (by kernel_rfl) (Does.call (f := 31) (args := [.int .i64 a3, .int .i64 8]) (by kernel_rfl) (fun W hI => (grapevinelaw0_Low_calls a3 8  t1 ht2 hI))) ?_
  rintro _ _ _ ⟨rfl, rfl, rfl⟩
  refine WL.restQ 2 [0, 1, 2, 3] (L' := [(0, .slice Al0 l0.length cl0), (1, .slice Al1 l1.length cl1), (2, .slice Al2 l2.length cl2), (3, .int .i64 (IntKind.i64.wrap (1 + t1)))]) (by kernel_rfl) ?_
  refine WP.seqR ?_
  refine WL.pure 0 2 [1, 2, 3, 20, 21] (L' := [(1, .slice Al1 l1.length cl1), (2, .slice Al2 l2.length cl2), (3, .int .i64 (IntKind.i64.wrap (1 + t1))), (20, .slice Al0 l0.length cl0), (21, .int .i64 (IntKind.i64.wrap (1 + t1)))]) (by kernel_rfl) (by decide) ?_
  rw [Option.bind_eq_some_iff] at h
  obtain ⟨t3, ht4, h⟩ := h
  refine WL.op (op := .call { callee := (.value (.func 32)), args := #[(.tmp 20), (.tmp 21)], argTypes := #[52, 3] }) (ty := 52) (d := some 22) (g := none) (by kernel_rfl) (by kernel_rfl) (by kernel_rfl) (Does.call (f := 32) (args := [.slice Al0 l0.length cl0, .int .i64 (IntKind.i64.wrap (1 + t1))]) (by kernel_rfl) (fun W hI => (grapevinelaw3_low_calls k l0 (IntKind.i64.wrap (1 + t1)) Al0 cl0 Hl0 t3 ht4 hI))) ?_
  rintro _ _ _ ⟨AR5, cR5, CR5, rfl, HR5, rfl, rfl⟩
  refine WL.pure 3 5 [2, 3, 22, 23, 24] (L' := [(2, .slice Al2 l2.length cl2), (3, .int .i64 (IntKind.i64.wrap (1 + t1))), (22, .slice AR5 t3.length cR5), (23, .slice Al1 l1.length cl1), (24, .int .i64 (IntKind.i64.wrap (1 + t1)))]) (by kernel_rfl) (by decide) ?_
  rw [Option.bind_eq_some_iff] at h
  obtain ⟨t6, ht7, h⟩ := h
  refine WL.op (op := .call { callee := (.value (.func 32)), args := #[(.tmp 23), (.tmp 24)], argTypes := #[52, 3] }) (ty := 52) (d := some 25) (g := none) (by kernel_rfl) (by kernel_rfl) (by kernel_rfl) (Does.call (f := 32) (args := [.slice Al1 l1.length cl1, .int .i64 (IntKind.i64.wrap (1 + t1))]) (by kernel_rfl) (fun W hI => (grapevinelaw3_low_calls k l1 (IntKind.i64.wrap (1 + t1)) Al1 cl1 Hl1 t6 ht7 hI))) ?_
  rintro _ _ _ ⟨AR8, cR8, CR8, rfl, HR8, rfl, rfl⟩
  refine WL.pure 6 8 [3, 22, 25, 26, 27] (L' := [(3, .int .i64 (IntKind.i64.wrap (1 + t1))), (22, .slice AR5 t3.length cR5), (25, .slice AR8 t6.length cR8), (26, .slice Al2 l2.length cl2), (27, .int .i64 (IntKind.i64.wrap (1 + t1)))]) (by kernel_rfl) (by decide) ?_
  rw [Option.bind_eq_some_iff] at h
  obtain ⟨t9, ht10, h⟩ := h
  refine WL.op (op := .call { callee := (.value (.func 32)), args := #[(.tmp 26), (.tmp 27)], argTypes := #[52, 3] }) (ty := 52) (d := some 28) (g := none) (by kernel_rfl) (by kernel_rfl) (by kernel_rfl) (Does.call (f := 32) (args := [.slice Al2 l2.length cl2, .int .i64 (IntKind.i64.wrap (1 + t1))]) (by kernel_rfl) (fun W hI => (grapevinelaw3_low_calls k l2 (IntKind.i64.wrap (1 + t1)) Al2 cl2 Hl2 t9 ht10 hI))) ?_
  rintro _ _ _ ⟨AR11, cR11, CR11, rfl, HR11, rfl, rfl⟩
  refine WL.restQ 9 [3, 9, 10, 11] (L' := [(3, .int .i64 (IntKind.i64.wrap (1 + t1))), (9, .slice AR5 t3.length cR5), (10, .slice AR8 t6.length cR8), (11, .slice AR11 t9.length cR11)]) (by kernel_rfl) ?_
  refine WP.seqR ?_
  refine WL.pure 0 3 [3, 9, 10, 11, 29, 30, 31] (L' := [(3, .int .i64 (IntKind.i64.wrap (1 + t1))), (9, .slice AR5 t3.length cR5), (10, .slice AR8 t6.length cR8), (11, .slice AR11 t9.length cR11), (29, .slice AR5 t3.length cR5), (30, .slice AR8 t6.length cR8), (31, .slice AR11 t9.length cR11)]) (by kernel_rfl) (by decide) ?_
  rw [Option.bind_eq_some_iff] at h
  obtain ⟨t12, ht13, h⟩ := h
  refine WL.op (op := .call { callee := (.value (.func 40)), args := #[(.tmp 29), (.tmp 30), (.tmp 31)], argTypes := #[52, 52, 52] }) (ty := 60) (d := some 32) (g := none) (by kernel_rfl) (by kernel_rfl) (by kernel_rfl) (Does.call (Φ := fun v' G' Γ' => ∃ (AR14 : Option Addr), ∃ (cR14 : Nat), ∃ (CR14 : Chunk), v' = .slice AR14 t12.length cR14 ∧ Ow k63 G AR14 cR14 t12 CR14 ∧ G = G' ∧ CR14 :: CR11 :: CR8 :: CR5 :: Γ = Γ') (f := 40) (args := [.slice AR5 t3.length cR5, .slice AR8 t6.length cR8, .slice AR11 t9.length cR11]) (by kernel_rfl) (fun W hI => (Calls.lendR (Φ := fun v' N => ∃ (AR14 : Option Addr), ∃ (cR14 : Nat), ∃ (CR14 : Chunk), v' = .slice AR14 t12.length cR14 ∧ Ow k63 G AR14 cR14 t12 CR14 ∧ N = [CR14]) (i := 2) rfl (Ow.nodup HR5) hI (fun _ e l15 hI => by subst e; exact Calls.lendR (Φ := fun v' N => ∃ (AR14 : Option Addr), ∃ (cR14 : Nat), ∃ (CR14 : Chunk), v' = .slice AR14 t12.length cR14 ∧ Ow k63 G AR14 cR14 t12 CR14 ∧ N = [CR14]) (i := 1) rfl (Ow.nodup (HR8.mono l15)) hI (fun _ e l16 hI => by subst e; exact Calls.lendR (Φ := fun v' N => ∃ (AR14 : Option Addr), ∃ (cR14 : Nat), ∃ (CR14 : Chunk), v' = .slice AR14 t12.length cR14 ∧ Ow k63 G AR14 cR14 t12 CR14 ∧ N = [CR14]) (i := 0) rfl (Ow.nodup ((HR11.mono l15).mono l16)) hI (fun _ e l17 hI => by subst e; exact ((vector_Lack_calls k t3 t6 t9 AR5 cR5 (((HR5.rd l15).mono l16).mono l17) AR8 cR8 (((HR8.mono l15).rd l16).mono l17) AR11 cR11 (((HR11.mono l15).mono l16).rd l17) t12 ht13 hI).mono fun _ _ hr => by obtain ⟨_, _, _, rfl, ⟨AR14, cR14, CR14, rfl, HR14, rfl, rfl⟩, hI⟩ := hr; exact ⟨_, _, _, rfl, ⟨[CR14], ⟨AR14, cR14, CR14, rfl, (HR14.flat (kFlat_flat _ _ _ _)), rfl⟩, rfl, rfl⟩, hI⟩))))).mono fun _ _ hr => by obtain ⟨_, _, _, rfl, ⟨_, ⟨AR14, cR14, CR14, rfl, HR14, rfl⟩, rfl, rfl⟩, hI⟩ := hr; exact ⟨_, _, _, rfl, ⟨AR14, cR14, CR14, rfl, HR14, rfl, rfl⟩, hI⟩)) ?_
  rintro _ _ _ ⟨AR14, cR14, CR14, rfl, HR14, rfl, rfl⟩
  refine WL.restQ 4 [3, 9, 10, 11, 12] (L' := [(3, .int .i64 (IntKind.i64.wrap (1 + t1))), (9, .slice AR5 t3.length cR5), (10, .slice AR8 t6.length cR8), (11, .slice AR11 t9.length cR11), (12, .slice AR14 t12.length cR14)]) (by kernel_rfl) ?_
  refine WP.seqP [3, 9, 10, 11, 12, 13] (L' := [(3, .int .i64 (IntKind.i64.wrap (1 + t1))), (9, .slice AR5 t3.length cR5), (10, .slice AR8 t6.length cR8), (11, .slice AR11 t9.length cR11), (12, .slice AR14 t12.length cR14), (13, .int .i64 0)]) (by kernel_rfl) ?_
  refine WP.seq ?_
  refine WP.seqP [3, 9, 10, 11, 12, 13, 14] (L' := [(3, .int .i64 (IntKind.i64.wrap (1 + t1))), (9, .slice AR5 t3.length cR5), (10, .slice AR8 t6.length cR8), (11, .slice AR11 t9.length cR11), (12, .slice AR14 t12.length cR14), (13, .int .i64 0), (14, .int .i64 0)]) (by kernel_rfl) ?_
  rw [Option.bind_eq_some_iff] at h
  obtain ⟨os18, h, hk19⟩ := h
  refine WP.cutQ (fun L' G' Γ' => ∃ s18 : Int, Sum.inr s18 = os18 ∧ L' = [(9, .slice AR5 t3.length cR5), (10, .slice AR8 t6.length cR8), (11, .slice AR11 t9.length cR11), (13, .int .i64 s18)] ∧ G = G' ∧ CR14 :: CR11 :: CR8 :: CR5 :: Γ = Γ') ?_ ?_
  · skip
    refine WP.block ?_
    refine WP.pick [3, 9, 10, 11, 12, 13, 14] ?_
    refine WP.loopF (fun k22 L' G' Γ' => ∃ (y20 : Int), ∃ (y21 : Int), grapevinelaw3_VectorLacks_l0 t1 t3 t6 t9 t12 k22 y20 y21 = some os18 ∧ L' = [(3, .int .i64 (IntKind.i64.wrap (1 + t1))), (9, .slice AR5 t3.length cR5), (10, .slice AR8 t6.length cR8), (11, .slice AR11 t9.length cR11), (12, .slice AR14 t12.length cR14), (13, .int .i64 y20), (14, .int .i64 y21)] ∧ G = G' ∧ CR14 :: CR11 :: CR8 :: CR5 :: Γ = Γ') ?_ k ⟨0, 0, h, rfl, rfl, rfl⟩
    clear h
    rintro k23 _ _ _ ⟨y20, y21, h, rfl, rfl, rfl⟩
    cases k23 with
    | zero => exact absurd h (by simp [grapevinelaw3_VectorLacks_l0])
    | succ k23 =>
      simp only [grapevinelaw3_VectorLacks_l0] at h
      refine WP.seq ?_
      refine WP.seqP [3, 9, 10, 11, 12, 13, 14, 36] (L' := [(3, .int .i64 (IntKind.i64.wrap (1 + t1))), (9, .slice AR5 t3.length cR5), (10, .slice AR8 t6.length cR8), (11, .slice AR11 t9.length cR11), (12, .slice AR14 t12.length cR14), (13, .int .i64 y20), (14, .int .i64 y21), (36, .bool (decide (y21 < (t12.length : Int))))]) (by kernel_rfl) ?_
      refine WP.cond (b := decide (y21 < (t12.length : Int))) (by kernel_rfl) (fun hc => ?_) (fun hc => ?_)
      · replace hc := of_decide_eq_true hc
        rw [if_pos hc] at h
        have hc24 := hc
        clear hc
        refine WP.skip ?_
        refine QP.next ?_
        refine WP.pick [3, 9, 10, 11, 12, 13, 14] ?_
        refine WP.seq ?_
        refine WP.block ?_
        refine WP.seqR ?_
        refine WL.pure 0 2 [3, 9, 10, 11, 12, 13, 14, 39, 40] (L' := [(3, .int .i64 (IntKind.i64.wrap (1 + t1))), (9, .slice AR5 t3.length cR5), (10, .slice AR8 t6.length cR8), (11, .slice AR11 t9.length cR11), (12, .slice AR14 t12.length cR14), (13, .int .i64 y20), (14, .int .i64 y21), (39, .slice AR14 t12.length cR14), (40, .int .i64 y21)]) (by kernel_rfl) (by decide) ?_
        by_cases hb25 : 0 ≤ y21 ∧ y21 < (t12.length : Int)
        case neg => rw [if_neg hb25] at h; cases h
        rw [if_pos hb25] at h
        refine WL.tell (op := .indexAddr 60 (.tmp 39) (.tmp 40)) (ty := 0) (d := some 41) (g := none) (by kernel_rfl) (by kernel_rfl) (by kernel_rfl) (Tells.indexAddr (A := AR14) (n := t12.length) (c := cR14) (k := .i64) (j := y21) (by kernel_rfl) (by kernel_rfl) (HR14.isSome hb25.1 hb25.2) hb25.1 hb25.2 sl60) ?_
        refine WL.tell (op := .fieldAddr 63 (.tmp 41) 0) (ty := 0) (d := some 42) (g := none) (by kernel_rfl) (by kernel_rfl) (by kernel_rfl) (Tells.fieldElem (m := y21.toNat * 3) (A := AR14) (by kernel_rfl) (HR14.isSome hb25.1 hb25.2) fi63_0) ?_
        refine WL.tellE (op := .load 3 (.tmp 42)) (ty := 3) (d := some 43) (g := none) (by kernel_rfl) (by kernel_rfl) (by kernel_rfl) (HR14.loadF (i := 0) rfl (agg := false) (off := 0) hb25.1 hb25.2 z63 ag3 (fun _ => rfl) (by decide) (by kernel_rfl)) ?_
        rintro _ rfl
        refine WL.restQ 5 [3, 9, 10, 11, 12, 13, 14, 15] (L' := [(3, .int .i64 (IntKind.i64.wrap (1 + t1))), (9, .slice AR5 t3.length cR5), (10, .slice AR8 t6.length cR8), (11, .slice AR11 t9.length cR11), (12, .slice AR14 t12.length cR14), (13, .int .i64 y20), (14, .int .i64 y21), (15, .int .i64 ((t12.getD y21.toNat z63).f0))]) (by kernel_rfl) ?_
        refine WP.seq ?_
        rw [Option.bind_eq_some_iff] at h
        obtain ⟨os26, h, hk27⟩ := h
        refine WP.cut (fun L' G' Γ' => ∃ s26 : Bool, s26 = os26 ∧ L' = [(3, .int .i64 (IntKind.i64.wrap (1 + t1))), (9, .slice AR5 t3.length cR5), (10, .slice AR8 t6.length cR8), (11, .slice AR11 t9.length cR11), (12, .slice AR14 t12.length cR14), (13, .int .i64 y20), (14, .int .i64 y21), (109, .bool s26)] ∧ G = G' ∧ CR14 :: CR11 :: CR8 :: CR5 :: Γ = Γ') ?_ ?_
        · clear hk27
          skip
          refine WP.any (N := 66) (S := [⟨some 44, [15], []⟩, ⟨some 45, [44], [0]⟩, ⟨some 46, [45], [1]⟩, ⟨some 47, [15, 46], [2]⟩, ⟨some 48, [3, 46], [2]⟩, ⟨some 49, [46, 47, 48], [2, 3, 4]⟩, ⟨some 50, [46, 49], [2, 5]⟩, ⟨some 51, [50], [2, 6]⟩, ⟨some 52, [14, 51], [7]⟩, ⟨some 53, [51, 52], [7, 8]⟩, ⟨some 54, [51, 53], [7, 9]⟩, ⟨some 55, [15, 54], [10]⟩, ⟨some 56, [12, 54], [10]⟩, ⟨some 57, [14, 54], [10]⟩, ⟨some 58, [54, 57], [10, 13]⟩, ⟨some 59, [54, 56, 58], [10, 12, 14]⟩, ⟨some 60, [54, 59], [10, 15]⟩, ⟨some 61, [54, 60], [10, 16]⟩, ⟨some 62, [54, 55, 61], [10, 11, 17]⟩, ⟨some 63, [51, 54, 62], [7, 10, 18]⟩, ⟨some 64, [51, 63], [7, 19]⟩, ⟨some 65, [64], [10, 20]⟩, ⟨some 66, [12, 65], [21]⟩, ⟨some 67, [14, 65], [21]⟩, ⟨some 68, [65, 66, 67], [21, 22, 23]⟩, ⟨some 69, [65, 68], [21, 24]⟩, ⟨some 70, [65, 69], [21, 25]⟩, ⟨some 71, [65, 70], [21, 26]⟩, ⟨some 72, [65, 71], [21, 27]⟩, ⟨some 73, [72], [21, 28]⟩, ⟨some 74, [12, 73], [29]⟩, ⟨some 75, [14, 73], [29]⟩, ⟨some 76, [73, 74, 75], [29, 30, 31]⟩, ⟨some 77, [73, 76], [29, 32]⟩, ⟨some 78, [73, 77], [29, 33]⟩, ⟨some 79, [10, 73], [29]⟩, ⟨some 80, [15, 73], [29]⟩, ⟨some 81, [73, 79, 80], [29, 35, 36]⟩, ⟨some 82, [73, 81], [29, 37]⟩, ⟨some 83, [11, 73], [29]⟩, ⟨some 84, [15, 73], [29]⟩, ⟨some 85, [73, 83, 84], [29, 39, 40]⟩, ⟨some 86, [73, 85], [29, 41]⟩, ⟨some 87, [73, 82, 86], [29, 38, 42]⟩, ⟨some 88, [73, 87], [29, 43]⟩, ⟨some 89, [73, 78, 88], [29, 34, 44]⟩, ⟨some 90, [73, 89], [29, 45]⟩, ⟨some 91, [90], [29, 46]⟩, ⟨some 92, [12, 91], [47]⟩, ⟨some 93, [14, 91], [47]⟩, ⟨some 94, [91, 92, 93], [47, 48, 49]⟩, ⟨some 95, [91, 94], [47, 50]⟩, ⟨some 96, [91, 95], [47, 51]⟩, ⟨some 97, [12, 91], [47]⟩, ⟨some 98, [14, 91], [47]⟩, ⟨some 99, [91, 97, 98], [47, 53, 54]⟩, ⟨some 100, [91, 99], [47, 55]⟩, ⟨some 101, [91, 100], [47, 56]⟩, ⟨some 102, [91, 96, 101], [47, 52, 57]⟩, ⟨some 103, [91, 102], [47, 58]⟩, ⟨some 104, [9, 91], [47]⟩, ⟨some 105, [15, 91], [47]⟩, ⟨some 106, [91, 104, 105], [47, 60, 61]⟩, ⟨some 107, [91, 106], [47, 62]⟩, ⟨some 108, [91, 103, 107], [47, 59, 63]⟩, ⟨some 109, [91, 108], [47, 64]⟩]) (kw := 66) (G0 := G) (Γ0 := CR14 :: CR11 :: CR8 :: CR5 :: Γ) mo (by kernel_rfl) (fun hS => ?_)
          refine WA.pure [0, 1, 2] [3, 9, 10, 11, 12, 13, 14, 15, 46] (m := 63) (b' := 7) (L' := [(3, .int .i64 (IntKind.i64.wrap (1 + t1))), (9, .slice AR5 t3.length cR5), (10, .slice AR8 t6.length cR8), (11, .slice AR11 t9.length cR11), (12, .slice AR14 t12.length cR14), (13, .int .i64 y20), (14, .int .i64 y21), (15, .int .i64 ((t12.getD y21.toNat z63).f0)), (46, .bool (decide (((t12.getD y21.toNat z63).f0) < 0)))]) (by kernel_rfl) (NoPanic.then (NoPanic.then (NoPanic.block (NoPanic.then (NoPanic.then (NoPanic.block (NoPanic.then (NoPanic.then (NoPanic.body))))))))) Under.refl hS (by kernel_rfl) ?_
          refine WA.split 46 (b := decide (((t12.getD y21.toNat z63).f0) < 0)) (by kernel_rfl) (fun hc => ?_) (fun hc => ?_)
          · replace hc := of_decide_eq_true hc
            rw [if_pos hc] at h
            have hc28 := hc
            clear hc
            refine WA.pure [3, 4, 5, 6, 7, 8, 9, 10, 11, 12, 13, 14, 15, 16, 17, 18, 19, 20, 21, 22, 23, 24, 25, 26, 27, 28, 29, 30, 31, 32, 33, 34, 35, 36, 37, 38, 39, 40, 41, 42, 43, 44, 45, 46, 47, 48, 49, 50, 51, 52, 53, 54, 55, 56, 57, 58, 59, 60, 61, 62, 63, 64, 65] [3, 9, 10, 11, 12, 13, 14, 109] (m := 0) (b' := 73786976294838206463) (L' := [(3, .int .i64 (IntKind.i64.wrap (1 + t1))), (9, .slice AR5 t3.length cR5), (10, .slice AR8 t6.length cR8), (11, .slice AR11 t9.length cR11), (12, .slice AR14 t12.length cR14), (13, .int .i64 y20), (14, .int .i64 y21), (109, .bool true)]) (by kernel_rfl) (NoPanic.then (NoPanic.then (NoPanic.block (NoPanic.then (NoPanic.then (NoPanic.block (NoPanic.then (NoPanic.then (NoPanic.body))))))))) Under.refl hS (by kernel_rfl) ?_
            refine WA.done hS (by kernel_rfl) ?_
            refine QP.pick [3, 9, 10, 11, 12, 13, 14, 109] ?_
            refine QP.pick [3, 9, 10, 11, 12, 13, 14, 109] ?_
            exact QP.meet ⟨_, Option.some.inj h, rfl, rfl, rfl⟩
          · replace hc := of_decide_eq_false hc
            rw [if_neg hc] at h
            have hc28 := hc
            clear hc
            refine WA.pure [3, 4, 5, 6, 7] [3, 9, 10, 11, 12, 13, 14, 15, 51] (m := 58) (b' := 255) (L' := [(3, .int .i64 (IntKind.i64.wrap (1 + t1))), (9, .slice AR5 t3.length cR5), (10, .slice AR8 t6.length cR8), (11, .slice AR11 t9.length cR11), (12, .slice AR14 t12.length cR14), (13, .int .i64 y20), (14, .int .i64 y21), (15, .int .i64 ((t12.getD y21.toNat z63).f0)), (51, .bool (decide (((t12.getD y21.toNat z63).f0) ≥ (IntKind.i64.wrap (1 + t1)))))]) (by kernel_rfl) (NoPanic.then (NoPanic.then (NoPanic.block (NoPanic.then (NoPanic.then (NoPanic.block (NoPanic.then (NoPanic.then (NoPanic.body))))))))) Under.refl hS (by kernel_rfl) ?_
            refine WA.split 51 (b := decide (((t12.getD y21.toNat z63).f0) ≥ (IntKind.i64.wrap (1 + t1)))) (by kernel_rfl) (fun hc => ?_) (fun hc => ?_)
            · replace hc := of_decide_eq_true hc
              rw [if_pos hc] at h
              have hc29 := hc
              clear hc
              refine WA.pure [8, 9, 10, 11, 12, 13, 14, 15, 16, 17, 18, 19, 20, 21, 22, 23, 24, 25, 26, 27, 28, 29, 30, 31, 32, 33, 34, 35, 36, 37, 38, 39, 40, 41, 42, 43, 44, 45, 46, 47, 48, 49, 50, 51, 52, 53, 54, 55, 56, 57, 58, 59, 60, 61, 62, 63, 64, 65] [3, 9, 10, 11, 12, 13, 14, 109] (m := 0) (b' := 73786976294838206463) (L' := [(3, .int .i64 (IntKind.i64.wrap (1 + t1))), (9, .slice AR5 t3.length cR5), (10, .slice AR8 t6.length cR8), (11, .slice AR11 t9.length cR11), (12, .slice AR14 t12.length cR14), (13, .int .i64 y20), (14, .int .i64 y21), (109, .bool true)]) (by kernel_rfl) (NoPanic.then (NoPanic.then (NoPanic.block (NoPanic.then (NoPanic.then (NoPanic.block (NoPanic.then (NoPanic.then (NoPanic.body))))))))) Under.refl hS (by kernel_rfl) ?_
              refine WA.done hS (by kernel_rfl) ?_
              refine QP.pick [3, 9, 10, 11, 12, 13, 14, 109] ?_
              refine QP.pick [3, 9, 10, 11, 12, 13, 14, 109] ?_
              exact QP.meet ⟨_, Option.some.inj h, rfl, rfl, rfl⟩
            · replace hc := of_decide_eq_false hc
              rw [if_neg hc] at h
              have hc29 := hc
              clear hc
              refine WA.pure [8, 9, 10] [3, 9, 10, 11, 12, 13, 14, 15, 51, 54] (m := 55) (b' := 2047) (L' := [(3, .int .i64 (IntKind.i64.wrap (1 + t1))), (9, .slice AR5 t3.length cR5), (10, .slice AR8 t6.length cR8), (11, .slice AR11 t9.length cR11), (12, .slice AR14 t12.length cR14), (13, .int .i64 y20), (14, .int .i64 y21), (15, .int .i64 ((t12.getD y21.toNat z63).f0)), (51, .bool false), (54, .bool (decide (y21 > 0)))]) (by kernel_rfl) (NoPanic.then (NoPanic.then (NoPanic.block (NoPanic.then (NoPanic.then (NoPanic.block (NoPanic.then (NoPanic.then (NoPanic.body))))))))) Under.refl hS (by kernel_rfl) ?_
              refine WA.split 54 (b := decide (y21 > 0)) (by kernel_rfl) (fun hc => ?_) (fun hc => ?_)
              · replace hc := of_decide_eq_true hc
                rw [if_pos hc] at h
                have hc30 := hc
                clear hc
                refine WA.pure [11, 12, 13, 14] [3, 9, 10, 11, 12, 13, 14, 15, 51, 54, 55, 56, 58] (m := 51) (b' := 32767) (L' := [(3, .int .i64 (IntKind.i64.wrap (1 + t1))), (9, .slice AR5 t3.length cR5), (10, .slice AR8 t6.length cR8), (11, .slice AR11 t9.length cR11), (12, .slice AR14 t12.length cR14), (13, .int .i64 y20), (14, .int .i64 y21), (15, .int .i64 ((t12.getD y21.toNat z63).f0)), (51, .bool false), (54, .bool true), (55, .int .i64 ((t12.getD y21.toNat z63).f0)), (56, .slice AR14 t12.length cR14), (58, .int .i64 (IntKind.i64.wrap (y21 - 1)))]) (by kernel_rfl) (NoPanic.then (NoPanic.then (NoPanic.block (NoPanic.then (NoPanic.then (NoPanic.block (NoPanic.then (NoPanic.then (NoPanic.body))))))))) Under.refl hS (by kernel_rfl) ?_
                by_cases hb31 : 0 ≤ (IntKind.i64.wrap (y21 - 1)) ∧ (IntKind.i64.wrap (y21 - 1)) < (t12.length : Int)
                case neg => rw [if_neg hb31] at h; cases h
                rw [if_pos hb31] at h
                refine WA.tell (i := 15) (m := 50) (b' := 65535) (by kernel_rfl) (NoPanic.then (NoPanic.then (NoPanic.block (NoPanic.then (NoPanic.then (NoPanic.block (NoPanic.then (NoPanic.then (NoPanic.body))))))))) Under.refl hS (by kernel_rfl) (op := .indexAddr 60 (.tmp 56) (.tmp 58)) (ty := 0) (d := some 59) (g := some (10, true)) (by kernel_rfl) (by kernel_rfl) (by kernel_rfl) (Tells.indexAddr (A := AR14) (n := t12.length) (c := cR14) (k := .i64) (j := (IntKind.i64.wrap (y21 - 1))) (by kernel_rfl) (by kernel_rfl) (HR14.isSome hb31.1 hb31.2) hb31.1 hb31.2 sl60) ?_
                refine WA.tell (i := 16) (m := 49) (b' := 131071) (by kernel_rfl) (NoPanic.then (NoPanic.then (NoPanic.block (NoPanic.then (NoPanic.then (NoPanic.block (NoPanic.then (NoPanic.then (NoPanic.body))))))))) Under.refl hS (by kernel_rfl) (op := .fieldAddr 63 (.tmp 59) 0) (ty := 0) (d := some 60) (g := some (10, true)) (by kernel_rfl) (by kernel_rfl) (by kernel_rfl) (Tells.fieldElem (m := (IntKind.i64.wrap (y21 - 1)).toNat * 3) (A := AR14) (by kernel_rfl) (HR14.isSome hb31.1 hb31.2) fi63_0) ?_
                refine WA.tellE (i := 17) (m := 48) (b' := 262143) (by kernel_rfl) (NoPanic.then (NoPanic.then (NoPanic.block (NoPanic.then (NoPanic.then (NoPanic.block (NoPanic.then (NoPanic.then (NoPanic.body))))))))) Under.refl hS (by kernel_rfl) (op := .load 3 (.tmp 60)) (ty := 3) (d := some 61) (g := some (10, true)) (by kernel_rfl) (by kernel_rfl) (by kernel_rfl) (HR14.loadF (i := 0) rfl (agg := false) (off := 0) hb31.1 hb31.2 z63 ag3 (fun _ => rfl) (by decide) (by kernel_rfl)) ?_
                rintro _ rfl
                refine WA.pure [18, 19, 20, 21] [3, 9, 10, 11, 12, 13, 14, 15, 65] (m := 44) (b' := 4194303) (L' := [(3, .int .i64 (IntKind.i64.wrap (1 + t1))), (9, .slice AR5 t3.length cR5), (10, .slice AR8 t6.length cR8), (11, .slice AR11 t9.length cR11), (12, .slice AR14 t12.length cR14), (13, .int .i64 y20), (14, .int .i64 y21), (15, .int .i64 ((t12.getD y21.toNat z63).f0)), (65, .bool (decide (((t12.getD y21.toNat z63).f0) ≤ ((t12.getD (IntKind.i64.wrap (y21 - 1)).toNat z63).f0))))]) (by kernel_rfl) (NoPanic.then (NoPanic.then (NoPanic.block (NoPanic.then (NoPanic.then (NoPanic.block (NoPanic.then (NoPanic.then (NoPanic.body))))))))) Under.refl hS (by kernel_rfl) ?_
                refine WA.split 65 (b := decide (((t12.getD y21.toNat z63).f0) ≤ ((t12.getD (IntKind.i64.wrap (y21 - 1)).toNat z63).f0))) (by kernel_rfl) (fun hc => ?_) (fun hc => ?_)
                · replace hc := of_decide_eq_true hc
                  rw [if_pos hc] at h
                  have hc32 := hc
                  clear hc
                  refine WA.pure [22, 23, 24, 25, 26, 27, 28, 29, 30, 31, 32, 33, 34, 35, 36, 37, 38, 39, 40, 41, 42, 43, 44, 45, 46, 47, 48, 49, 50, 51, 52, 53, 54, 55, 56, 57, 58, 59, 60, 61, 62, 63, 64, 65] [3, 9, 10, 11, 12, 13, 14, 109] (m := 0) (b' := 73786976294838206463) (L' := [(3, .int .i64 (IntKind.i64.wrap (1 + t1))), (9, .slice AR5 t3.length cR5), (10, .slice AR8 t6.length cR8), (11, .slice AR11 t9.length cR11), (12, .slice AR14 t12.length cR14), (13, .int .i64 y20), (14, .int .i64 y21), (109, .bool true)]) (by kernel_rfl) (NoPanic.then (NoPanic.then (NoPanic.block (NoPanic.then (NoPanic.then (NoPanic.block (NoPanic.then (NoPanic.then (NoPanic.body))))))))) Under.refl hS (by kernel_rfl) ?_
                  refine WA.done hS (by kernel_rfl) ?_
                  refine QP.pick [3, 9, 10, 11, 12, 13, 14, 109] ?_
                  refine QP.pick [3, 9, 10, 11, 12, 13, 14, 109] ?_
                  exact QP.meet ⟨_, Option.some.inj h, rfl, rfl, rfl⟩
                · replace hc := of_decide_eq_false hc
                  rw [if_neg hc] at h
                  have hc32 := hc
                  clear hc
                  refine WA.pure [22, 23] [3, 9, 10, 11, 12, 13, 14, 15, 65, 66, 67] (m := 42) (b' := 16777215) (L' := [(3, .int .i64 (IntKind.i64.wrap (1 + t1))), (9, .slice AR5 t3.length cR5), (10, .slice AR8 t6.length cR8), (11, .slice AR11 t9.length cR11), (12, .slice AR14 t12.length cR14), (13, .int .i64 y20), (14, .int .i64 y21), (15, .int .i64 ((t12.getD y21.toNat z63).f0)), (65, .bool false), (66, .slice AR14 t12.length cR14), (67, .int .i64 y21)]) (by kernel_rfl) (NoPanic.then (NoPanic.then (NoPanic.block (NoPanic.then (NoPanic.then (NoPanic.block (NoPanic.then (NoPanic.then (NoPanic.body))))))))) Under.refl hS (by kernel_rfl) ?_
                  by_cases hb33 : 0 ≤ y21 ∧ y21 < (t12.length : Int)
                  case neg => rw [if_neg hb33] at h; cases h
                  rw [if_pos hb33] at h
                  refine WA.tell (i := 24) (m := 41) (b' := 33554431) (by kernel_rfl) (NoPanic.then (NoPanic.then (NoPanic.block (NoPanic.then (NoPanic.then (NoPanic.block (NoPanic.then (NoPanic.then (NoPanic.body))))))))) Under.refl hS (by kernel_rfl) (op := .indexAddr 60 (.tmp 66) (.tmp 67)) (ty := 0) (d := some 68) (g := some (21, false)) (by kernel_rfl) (by kernel_rfl) (by kernel_rfl) (Tells.indexAddr (A := AR14) (n := t12.length) (c := cR14) (k := .i64) (j := y21) (by kernel_rfl) (by kernel_rfl) (HR14.isSome hb33.1 hb33.2) hb33.1 hb33.2 sl60) ?_
                  refine WA.tell (i := 25) (m := 40) (b' := 67108863) (by kernel_rfl) (NoPanic.then (NoPanic.then (NoPanic.block (NoPanic.then (NoPanic.then (NoPanic.block (NoPanic.then (NoPanic.then (NoPanic.body))))))))) Under.refl hS (by kernel_rfl) (op := .fieldAddr 63 (.tmp 68) 2) (ty := 0) (d := some 69) (g := some (21, false)) (by kernel_rfl) (by kernel_rfl) (by kernel_rfl) (Tells.fieldElem (m := y21.toNat * 3) (A := AR14) (by kernel_rfl) (HR14.isSome hb33.1 hb33.2) fi63_2) ?_
                  refine WA.tellE (i := 26) (m := 39) (b' := 134217727) (by kernel_rfl) (NoPanic.then (NoPanic.then (NoPanic.block (NoPanic.then (NoPanic.then (NoPanic.block (NoPanic.then (NoPanic.then (NoPanic.body))))))))) Under.refl hS (by kernel_rfl) (op := .load 3 (.tmp 69)) (ty := 3) (d := some 70) (g := some (21, false)) (by kernel_rfl) (by kernel_rfl) (by kernel_rfl) (HR14.loadF (i := 0) rfl (agg := false) (off := 2) hb33.1 hb33.2 z63 ag3 (fun _ => rfl) (by decide) (by kernel_rfl)) ?_
                  rintro _ rfl
                  refine WA.pure [27, 28, 29] [3, 9, 10, 11, 12, 13, 14, 15, 73] (m := 36) (b' := 1073741823) (L' := [(3, .int .i64 (IntKind.i64.wrap (1 + t1))), (9, .slice AR5 t3.length cR5), (10, .slice AR8 t6.length cR8), (11, .slice AR11 t9.length cR11), (12, .slice AR14 t12.length cR14), (13, .int .i64 y20), (14, .int .i64 y21), (15, .int .i64 ((t12.getD y21.toNat z63).f0)), (73, .bool (decide (((t12.getD y21.toNat z63).f2) < 1)))]) (by kernel_rfl) (NoPanic.then (NoPanic.then (NoPanic.block (NoPanic.then (NoPanic.then (NoPanic.block (NoPanic.then (NoPanic.then (NoPanic.body))))))))) Under.refl hS (by kernel_rfl) ?_
                  refine WA.split 73 (b := decide (((t12.getD y21.toNat z63).f2) < 1)) (by kernel_rfl) (fun hc => ?_) (fun hc => ?_)
                  · replace hc := of_decide_eq_true hc
                    rw [if_pos hc] at h
                    have hc34 := hc
                    clear hc
                    refine WA.pure [30, 31, 32, 33, 34, 35, 36, 37, 38, 39, 40, 41, 42, 43, 44, 45, 46, 47, 48, 49, 50, 51, 52, 53, 54, 55, 56, 57, 58, 59, 60, 61, 62, 63, 64, 65] [3, 9, 10, 11, 12, 13, 14, 109] (m := 0) (b' := 73786976294838206463) (L' := [(3, .int .i64 (IntKind.i64.wrap (1 + t1))), (9, .slice AR5 t3.length cR5), (10, .slice AR8 t6.length cR8), (11, .slice AR11 t9.length cR11), (12, .slice AR14 t12.length cR14), (13, .int .i64 y20), (14, .int .i64 y21), (109, .bool true)]) (by kernel_rfl) (NoPanic.then (NoPanic.then (NoPanic.block (NoPanic.then (NoPanic.then (NoPanic.block (NoPanic.then (NoPanic.then (NoPanic.body))))))))) Under.refl hS (by kernel_rfl) ?_
                    refine WA.done hS (by kernel_rfl) ?_
                    refine QP.pick [3, 9, 10, 11, 12, 13, 14, 109] ?_
                    refine QP.pick [3, 9, 10, 11, 12, 13, 14, 109] ?_
                    exact QP.meet ⟨_, Option.some.inj h, rfl, rfl, rfl⟩
                  · replace hc := of_decide_eq_false hc
                    rw [if_neg hc] at h
                    have hc34 := hc
                    clear hc
                    refine WA.pure [30, 31, 35, 36, 39, 40] [3, 9, 10, 11, 12, 13, 14, 15, 73, 74, 75, 79, 80, 83, 84] (m := 30) (b' := 1756641624063) (L' := [(3, .int .i64 (IntKind.i64.wrap (1 + t1))), (9, .slice AR5 t3.length cR5), (10, .slice AR8 t6.length cR8), (11, .slice AR11 t9.length cR11), (12, .slice AR14 t12.length cR14), (13, .int .i64 y20), (14, .int .i64 y21), (15, .int .i64 ((t12.getD y21.toNat z63).f0)), (73, .bool false), (74, .slice AR14 t12.length cR14), (75, .int .i64 y21), (79, .slice AR8 t6.length cR8), (80, .int .i64 ((t12.getD y21.toNat z63).f0)), (83, .slice AR11 t9.length cR11), (84, .int .i64 ((t12.getD y21.toNat z63).f0))]) (by kernel_rfl) (NoPanic.then (NoPanic.then (NoPanic.block (NoPanic.then (NoPanic.then (NoPanic.block (NoPanic.then (NoPanic.then (NoPanic.body))))))))) Under.refl hS (by kernel_rfl) ?_
                    by_cases hb35 : 0 ≤ y21 ∧ y21 < (t12.length : Int)
                    case neg => rw [if_neg hb35] at h; cases h
                    rw [if_pos hb35] at h
                    refine WA.tell (i := 32) (m := 29) (b' := 1760936591359) (by kernel_rfl) (NoPanic.then (NoPanic.then (NoPanic.block (NoPanic.then (NoPanic.then (NoPanic.block (NoPanic.then (NoPanic.then (NoPanic.body))))))))) Under.refl hS (by kernel_rfl) (op := .indexAddr 60 (.tmp 74) (.tmp 75)) (ty := 0) (d := some 76) (g := some (29, false)) (by kernel_rfl) (by kernel_rfl) (by kernel_rfl) (Tells.indexAddr (A := AR14) (n := t12.length) (c := cR14) (k := .i64) (j := y21) (by kernel_rfl) (by kernel_rfl) (HR14.isSome hb35.1 hb35.2) hb35.1 hb35.2 sl60) ?_
                    refine WA.tell (i := 33) (m := 28) (b' := 1769526525951) (by kernel_rfl) (NoPanic.then (NoPanic.then (NoPanic.block (NoPanic.then (NoPanic.then (NoPanic.block (NoPanic.then (NoPanic.then (NoPanic.body))))))))) Under.refl hS (by kernel_rfl) (op := .fieldAddr 63 (.tmp 76) 1) (ty := 0) (d := some 77) (g := some (29, false)) (by kernel_rfl) (by kernel_rfl) (by kernel_rfl) (Tells.fieldElem (m := y21.toNat * 3) (A := AR14) (by kernel_rfl) (HR14.isSome hb35.1 hb35.2) fi63_1) ?_
                    refine WA.tellE (i := 34) (m := 27) (b' := 1786706395135) (by kernel_rfl) (NoPanic.then (NoPanic.then (NoPanic.block (NoPanic.then (NoPanic.then (NoPanic.block (NoPanic.then (NoPanic.then (NoPanic.body))))))))) Under.refl hS (by kernel_rfl) (op := .load 3 (.tmp 77)) (ty := 3) (d := some 78) (g := some (29, false)) (by kernel_rfl) (by kernel_rfl) (by kernel_rfl) (HR14.loadF (i := 0) rfl (agg := false) (off := 1) hb35.1 hb35.2 z63 ag3 (fun _ => rfl) (by decide) (by kernel_rfl)) ?_
                    rintro _ rfl
                    by_cases hb36 : 0 ≤ ((t12.getD y21.toNat z63).f0) ∧ ((t12.getD y21.toNat z63).f0) < (t6.length : Int)
                    case neg => rw [if_neg hb36] at h; cases h
                    rw [if_pos hb36] at h
                    refine WA.tell (i := 37) (m := 26) (b' := 1924145348607) (by kernel_rfl) (NoPanic.then (NoPanic.then (NoPanic.block (NoPanic.then (NoPanic.then (NoPanic.block (NoPanic.then (NoPanic.then (NoPanic.body))))))))) Under.refl hS (by kernel_rfl) (op := .indexAddr 52 (.tmp 79) (.tmp 80)) (ty := 0) (d := some 81) (g := some (29, false)) (by kernel_rfl) (by kernel_rfl) (by kernel_rfl) (Tells.indexAddr (A := AR8) (n := t6.length) (c := cR8) (k := .i64) (j := ((t12.getD y21.toNat z63).f0)) (by kernel_rfl) (by kernel_rfl) (HR8.isSome hb36.1 hb36.2) hb36.1 hb36.2 sl52) ?_
                    refine WA.tellE (i := 38) (m := 25) (b' := 2199023255551) (by kernel_rfl) (NoPanic.then (NoPanic.then (NoPanic.block (NoPanic.then (NoPanic.then (NoPanic.block (NoPanic.then (NoPanic.then (NoPanic.body))))))))) Under.refl hS (by kernel_rfl) (op := .load 3 (.tmp 81)) (ty := 3) (d := some 82) (g := some (29, false)) (by kernel_rfl) (by kernel_rfl) (by kernel_rfl) (HR8.load (i := 2) rfl (agg := false) hb36.1 hb36.2 0 ag3 (fun _ => rfl) (by kernel_rfl)) ?_
                    rintro _ rfl
                    by_cases hb37 : 0 ≤ ((t12.getD y21.toNat z63).f0) ∧ ((t12.getD y21.toNat z63).f0) < (t9.length : Int)
                    case neg => rw [if_neg hb37] at h; cases h
                    rw [if_pos hb37] at h
                    refine WA.tell (i := 41) (m := 24) (b' := 4398046511103) (by kernel_rfl) (NoPanic.then (NoPanic.then (NoPanic.block (NoPanic.then (NoPanic.then (NoPanic.block (NoPanic.then (NoPanic.then (NoPanic.body))))))))) Under.refl hS (by kernel_rfl) (op := .indexAddr 52 (.tmp 83) (.tmp 84)) (ty := 0) (d := some 85) (g := some (29, false)) (by kernel_rfl) (by kernel_rfl) (by kernel_rfl) (Tells.indexAddr (A := AR11) (n := t9.length) (c := cR11) (k := .i64) (j := ((t12.getD y21.toNat z63).f0)) (by kernel_rfl) (by kernel_rfl) (HR11.isSome hb37.1 hb37.2) hb37.1 hb37.2 sl52) ?_
                    refine WA.tellE (i := 42) (m := 23) (b' := 8796093022207) (by kernel_rfl) (NoPanic.then (NoPanic.then (NoPanic.block (NoPanic.then (NoPanic.then (NoPanic.block (NoPanic.then (NoPanic.then (NoPanic.body))))))))) Under.refl hS (by kernel_rfl) (op := .load 3 (.tmp 85)) (ty := 3) (d := some 86) (g := some (29, false)) (by kernel_rfl) (by kernel_rfl) (by kernel_rfl) (HR11.load (i := 1) rfl (agg := false) hb37.1 hb37.2 0 ag3 (fun _ => rfl) (by kernel_rfl)) ?_
                    rintro _ rfl
                    refine WA.pure [43, 44, 45, 46, 47] [3, 9, 10, 11, 12, 13, 14, 15, 91] (m := 18) (b' := 281474976710655) (L' := [(3, .int .i64 (IntKind.i64.wrap (1 + t1))), (9, .slice AR5 t3.length cR5), (10, .slice AR8 t6.length cR8), (11, .slice AR11 t9.length cR11), (12, .slice AR14 t12.length cR14), (13, .int .i64 y20), (14, .int .i64 y21), (15, .int .i64 ((t12.getD y21.toNat z63).f0)), (91, .bool (((t12.getD y21.toNat z63).f1) != (IntKind.i64.wrap ((if (t9.getD ((t12.getD y21.toNat z63).f0).toNat 0) > (t6.getD ((t12.getD y21.toNat z63).f0).toNat 0) then (t9.getD ((t12.getD y21.toNat z63).f0).toNat 0) else (t6.getD ((t12.getD y21.toNat z63).f0).toNat 0)) + 1))))]) (by kernel_rfl) (NoPanic.then (NoPanic.then (NoPanic.block (NoPanic.then (NoPanic.then (NoPanic.block (NoPanic.then (NoPanic.then (NoPanic.body))))))))) Under.refl hS (by kernel_rfl) ?_
                    refine WA.split 91 (b := (((t12.getD y21.toNat z63).f1) != (IntKind.i64.wrap ((if (t9.getD ((t12.getD y21.toNat z63).f0).toNat 0) > (t6.getD ((t12.getD y21.toNat z63).f0).toNat 0) then (t9.getD ((t12.getD y21.toNat z63).f0).toNat 0) else (t6.getD ((t12.getD y21.toNat z63).f0).toNat 0)) + 1)))) (by kernel_rfl) (fun hc => ?_) (fun hc => ?_)
                    · replace hc := (bne_iff_ne.1 hc)
                      rw [if_pos hc] at h
                      have hc38 := hc
                      clear hc
                      refine WA.pure [48, 49, 50, 51, 52, 53, 54, 55, 56, 57, 58, 59, 60, 61, 62, 63, 64, 65] [3, 9, 10, 11, 12, 13, 14, 109] (m := 0) (b' := 73786976294838206463) (L' := [(3, .int .i64 (IntKind.i64.wrap (1 + t1))), (9, .slice AR5 t3.length cR5), (10, .slice AR8 t6.length cR8), (11, .slice AR11 t9.length cR11), (12, .slice AR14 t12.length cR14), (13, .int .i64 y20), (14, .int .i64 y21), (109, .bool true)]) (by kernel_rfl) (NoPanic.then (NoPanic.then (NoPanic.block (NoPanic.then (NoPanic.then (NoPanic.block (NoPanic.then (NoPanic.then (NoPanic.body))))))))) Under.refl hS (by kernel_rfl) ?_
                      refine WA.done hS (by kernel_rfl) ?_
                      refine QP.pick [3, 9, 10, 11, 12, 13, 14, 109] ?_
                      refine QP.pick [3, 9, 10, 11, 12, 13, 14, 109] ?_
                      exact QP.meet ⟨_, Option.some.inj h, rfl, rfl, rfl⟩
                    · replace hc := (not_not_intro (bne_eq_false_iff_eq.1 hc))
                      rw [if_neg hc] at h
                      have hc38 := hc
                      clear hc
                      refine WA.pure [48, 49, 53, 54, 60, 61] [3, 9, 10, 11, 12, 13, 14, 91, 92, 93, 97, 98, 104, 105] (m := 12) (b' := 3486912011491606527) (L' := [(3, .int .i64 (IntKind.i64.wrap (1 + t1))), (9, .slice AR5 t3.length cR5), (10, .slice AR8 t6.length cR8), (11, .slice AR11 t9.length cR11), (12, .slice AR14 t12.length cR14), (13, .int .i64 y20), (14, .int .i64 y21), (91, .bool false), (92, .slice AR14 t12.length cR14), (93, .int .i64 y21), (97, .slice AR14 t12.length cR14), (98, .int .i64 y21), (104, .slice AR5 t3.length cR5), (105, .int .i64 ((t12.getD y21.toNat z63).f0))]) (by kernel_rfl) (NoPanic.then (NoPanic.then (NoPanic.block (NoPanic.then (NoPanic.then (NoPanic.block (NoPanic.then (NoPanic.then (NoPanic.body))))))))) Under.refl hS (by kernel_rfl) ?_
                      by_cases hb39 : 0 ≤ y21 ∧ y21 < (t12.length : Int)
                      case neg => rw [if_neg hb39] at h; cases h
                      rw [if_pos hb39] at h
                      refine WA.tell (i := 50) (m := 11) (b' := 3488037911398449151) (by kernel_rfl) (NoPanic.then (NoPanic.then (NoPanic.block (NoPanic.then (NoPanic.then (NoPanic.block (NoPanic.then (NoPanic.then (NoPanic.body))))))))) Under.refl hS (by kernel_rfl) (op := .indexAddr 60 (.tmp 92) (.tmp 93)) (ty := 0) (d := some 94) (g := some (47, false)) (by kernel_rfl) (by kernel_rfl) (by kernel_rfl) (Tells.indexAddr (A := AR14) (n := t12.length) (c := cR14) (k := .i64) (j := y21) (by kernel_rfl) (by kernel_rfl) (HR14.isSome hb39.1 hb39.2) hb39.1 hb39.2 sl60) ?_
                      refine WA.tell (i := 51) (m := 10) (b' := 3490289711212134399) (by kernel_rfl) (NoPanic.then (NoPanic.then (NoPanic.block (NoPanic.then (NoPanic.then (NoPanic.block (NoPanic.then (NoPanic.then (NoPanic.body))))))))) Under.refl hS (by kernel_rfl) (op := .fieldAddr 63 (.tmp 94) 1) (ty := 0) (d := some 95) (g := some (47, false)) (by kernel_rfl) (by kernel_rfl) (by kernel_rfl) (Tells.fieldElem (m := y21.toNat * 3) (A := AR14) (by kernel_rfl) (HR14.isSome hb39.1 hb39.2) fi63_1) ?_
                      refine WA.tellE (i := 52) (m := 9) (b' := 3494793310839504895) (by kernel_rfl) (NoPanic.then (NoPanic.then (NoPanic.block (NoPanic.then (NoPanic.then (NoPanic.block (NoPanic.then (NoPanic.then (NoPanic.body))))))))) Under.refl hS (by kernel_rfl) (op := .load 3 (.tmp 95)) (ty := 3) (d := some 96) (g := some (47, false)) (by kernel_rfl) (by kernel_rfl) (by kernel_rfl) (HR14.loadF (i := 0) rfl (agg := false) (off := 1) hb39.1 hb39.2 z63 ag3 (fun _ => rfl) (by decide) (by kernel_rfl)) ?_
                      rintro _ rfl
                      by_cases hb40 : 0 ≤ y21 ∧ y21 < (t12.length : Int)
                      case neg => rw [if_neg hb40] at h; cases h
                      rw [if_pos hb40] at h
                      refine WA.tell (i := 55) (m := 8) (b' := 3530822107858468863) (by kernel_rfl) (NoPanic.then (NoPanic.then (NoPanic.block (NoPanic.then (NoPanic.then (NoPanic.block (NoPanic.then (NoPanic.then (NoPanic.body))))))))) Under.refl hS (by kernel_rfl) (op := .indexAddr 60 (.tmp 97) (.tmp 98)) (ty := 0) (d := some 99) (g := some (47, false)) (by kernel_rfl) (by kernel_rfl) (by kernel_rfl) (Tells.indexAddr (A := AR14) (n := t12.length) (c := cR14) (k := .i64) (j := y21) (by kernel_rfl) (by kernel_rfl) (HR14.isSome hb40.1 hb40.2) hb40.1 hb40.2 sl60) ?_
                      refine WA.tell (i := 56) (m := 7) (b' := 3602879701896396799) (by kernel_rfl) (NoPanic.then (NoPanic.then (NoPanic.block (NoPanic.then (NoPanic.then (NoPanic.block (NoPanic.then (NoPanic.then (NoPanic.body))))))))) Under.refl hS (by kernel_rfl) (op := .fieldAddr 63 (.tmp 99) 2) (ty := 0) (d := some 100) (g := some (47, false)) (by kernel_rfl) (by kernel_rfl) (by kernel_rfl) (Tells.fieldElem (m := y21.toNat * 3) (A := AR14) (by kernel_rfl) (HR14.isSome hb40.1 hb40.2) fi63_2) ?_
                      refine WA.tellE (i := 57) (m := 6) (b' := 3746994889972252671) (by kernel_rfl) (NoPanic.then (NoPanic.then (NoPanic.block (NoPanic.then (NoPanic.then (NoPanic.block (NoPanic.then (NoPanic.then (NoPanic.body))))))))) Under.refl hS (by kernel_rfl) (op := .load 3 (.tmp 100)) (ty := 3) (d := some 101) (g := some (47, false)) (by kernel_rfl) (by kernel_rfl) (by kernel_rfl) (HR14.loadF (i := 0) rfl (agg := false) (off := 2) hb40.1 hb40.2 z63 ag3 (fun _ => rfl) (by decide) (by kernel_rfl)) ?_
                      rintro _ rfl
                      refine WA.pure [58, 59] [3, 9, 10, 11, 12, 13, 14, 91, 103, 104, 105] (m := 4) (b' := 4611686018427387903) (L' := [(3, .int .i64 (IntKind.i64.wrap (1 + t1))), (9, .slice AR5 t3.length cR5), (10, .slice AR8 t6.length cR8), (11, .slice AR11 t9.length cR11), (12, .slice AR14 t12.length cR14), (13, .int .i64 y20), (14, .int .i64 y21), (91, .bool false), (103, .int .i64 (IntKind.i64.wrap ((IntKind.i64.wrap (((t12.getD y21.toNat z63).f1) + ((t12.getD y21.toNat z63).f2))) - 1))), (104, .slice AR5 t3.length cR5), (105, .int .i64 ((t12.getD y21.toNat z63).f0))]) (by kernel_rfl) (NoPanic.then (NoPanic.then (NoPanic.block (NoPanic.then (NoPanic.then (NoPanic.block (NoPanic.then (NoPanic.then (NoPanic.body))))))))) Under.refl hS (by kernel_rfl) ?_
                      by_cases hb41 : 0 ≤ ((t12.getD y21.toNat z63).f0) ∧ ((t12.getD y21.toNat z63).f0) < (t3.length : Int)
                      case neg => rw [if_neg hb41] at h; cases h
                      rw [if_pos hb41] at h
                      refine WA.tell (i := 62) (m := 3) (b' := 9223372036854775807) (by kernel_rfl) (NoPanic.then (NoPanic.then (NoPanic.block (NoPanic.then (NoPanic.then (NoPanic.block (NoPanic.then (NoPanic.then (NoPanic.body))))))))) Under.refl hS (by kernel_rfl) (op := .indexAddr 52 (.tmp 104) (.tmp 105)) (ty := 0) (d := some 106) (g := some (47, false)) (by kernel_rfl) (by kernel_rfl) (by kernel_rfl) (Tells.indexAddr (A := AR5) (n := t3.length) (c := cR5) (k := .i64) (j := ((t12.getD y21.toNat z63).f0)) (by kernel_rfl) (by kernel_rfl) (HR5.isSome hb41.1 hb41.2) hb41.1 hb41.2 sl52) ?_
                      refine WA.tellE (i := 63) (m := 2) (b' := 18446744073709551615) (by kernel_rfl) (NoPanic.then (NoPanic.then (NoPanic.block (NoPanic.then (NoPanic.then (NoPanic.block (NoPanic.then (NoPanic.then (NoPanic.body))))))))) Under.refl hS (by kernel_rfl) (op := .load 3 (.tmp 106)) (ty := 3) (d := some 107) (g := some (47, false)) (by kernel_rfl) (by kernel_rfl) (by kernel_rfl) (HR5.load (i := 3) rfl (agg := false) hb41.1 hb41.2 0 ag3 (fun _ => rfl) (by kernel_rfl)) ?_
                      rintro _ rfl
                      refine WA.pure [64, 65] [3, 9, 10, 11, 12, 13, 14, 109] (m := 0) (b' := 73786976294838206463) (L' := [(3, .int .i64 (IntKind.i64.wrap (1 + t1))), (9, .slice AR5 t3.length cR5), (10, .slice AR8 t6.length cR8), (11, .slice AR11 t9.length cR11), (12, .slice AR14 t12.length cR14), (13, .int .i64 y20), (14, .int .i64 y21), (109, .bool ((IntKind.i64.wrap ((IntKind.i64.wrap (((t12.getD y21.toNat z63).f1) + ((t12.getD y21.toNat z63).f2))) - 1)) != (t3.getD ((t12.getD y21.toNat z63).f0).toNat 0)))]) (by kernel_rfl) (NoPanic.then (NoPanic.then (NoPanic.block (NoPanic.then (NoPanic.then (NoPanic.block (NoPanic.then (NoPanic.then (NoPanic.body))))))))) Under.refl hS (by kernel_rfl) ?_
                      refine WA.done hS (by kernel_rfl) ?_
                      refine QP.pick [3, 9, 10, 11, 12, 13, 14, 109] ?_
                      refine QP.pick [3, 9, 10, 11, 12, 13, 14, 109] ?_
                      exact QP.meet ⟨_, Option.some.inj h, rfl, rfl, rfl⟩
              · replace hc := of_decide_eq_false hc
                rw [if_neg hc] at h
                have hc30 := hc
                clear hc
                refine WA.pure [11, 12, 13, 14, 15, 16, 17, 18, 19, 20, 21, 22, 23] [3, 9, 10, 11, 12, 13, 14, 15, 65, 66, 67] (m := 42) (b' := 16777215) (L' := [(3, .int .i64 (IntKind.i64.wrap (1 + t1))), (9, .slice AR5 t3.length cR5), (10, .slice AR8 t6.length cR8), (11, .slice AR11 t9.length cR11), (12, .slice AR14 t12.length cR14), (13, .int .i64 y20), (14, .int .i64 y21), (15, .int .i64 ((t12.getD y21.toNat z63).f0)), (65, .bool false), (66, .slice AR14 t12.length cR14), (67, .int .i64 y21)]) (by kernel_rfl) (NoPanic.then (NoPanic.then (NoPanic.block (NoPanic.then (NoPanic.then (NoPanic.block (NoPanic.then (NoPanic.then (NoPanic.body))))))))) Under.refl hS (by kernel_rfl) ?_
                by_cases hb42 : 0 ≤ y21 ∧ y21 < (t12.length : Int)
                case neg => rw [if_neg hb42] at h; cases h
                rw [if_pos hb42] at h
                refine WA.tell (i := 24) (m := 41) (b' := 33554431) (by kernel_rfl) (NoPanic.then (NoPanic.then (NoPanic.block (NoPanic.then (NoPanic.then (NoPanic.block (NoPanic.then (NoPanic.then (NoPanic.body))))))))) Under.refl hS (by kernel_rfl) (op := .indexAddr 60 (.tmp 66) (.tmp 67)) (ty := 0) (d := some 68) (g := some (21, false)) (by kernel_rfl) (by kernel_rfl) (by kernel_rfl) (Tells.indexAddr (A := AR14) (n := t12.length) (c := cR14) (k := .i64) (j := y21) (by kernel_rfl) (by kernel_rfl) (HR14.isSome hb42.1 hb42.2) hb42.1 hb42.2 sl60) ?_
                refine WA.tell (i := 25) (m := 40) (b' := 67108863) (by kernel_rfl) (NoPanic.then (NoPanic.then (NoPanic.block (NoPanic.then (NoPanic.then (NoPanic.block (NoPanic.then (NoPanic.then (NoPanic.body))))))))) Under.refl hS (by kernel_rfl) (op := .fieldAddr 63 (.tmp 68) 2) (ty := 0) (d := some 69) (g := some (21, false)) (by kernel_rfl) (by kernel_rfl) (by kernel_rfl) (Tells.fieldElem (m := y21.toNat * 3) (A := AR14) (by kernel_rfl) (HR14.isSome hb42.1 hb42.2) fi63_2) ?_
                refine WA.tellE (i := 26) (m := 39) (b' := 134217727) (by kernel_rfl) (NoPanic.then (NoPanic.then (NoPanic.block (NoPanic.then (NoPanic.then (NoPanic.block (NoPanic.then (NoPanic.then (NoPanic.body))))))))) Under.refl hS (by kernel_rfl) (op := .load 3 (.tmp 69)) (ty := 3) (d := some 70) (g := some (21, false)) (by kernel_rfl) (by kernel_rfl) (by kernel_rfl) (HR14.loadF (i := 0) rfl (agg := false) (off := 2) hb42.1 hb42.2 z63 ag3 (fun _ => rfl) (by decide) (by kernel_rfl)) ?_
                rintro _ rfl
                refine WA.pure [27, 28, 29] [3, 9, 10, 11, 12, 13, 14, 15, 73] (m := 36) (b' := 1073741823) (L' := [(3, .int .i64 (IntKind.i64.wrap (1 + t1))), (9, .slice AR5 t3.length cR5), (10, .slice AR8 t6.length cR8), (11, .slice AR11 t9.length cR11), (12, .slice AR14 t12.length cR14), (13, .int .i64 y20), (14, .int .i64 y21), (15, .int .i64 ((t12.getD y21.toNat z63).f0)), (73, .bool (decide (((t12.getD y21.toNat z63).f2) < 1)))]) (by kernel_rfl) (NoPanic.then (NoPanic.then (NoPanic.block (NoPanic.then (NoPanic.then (NoPanic.block (NoPanic.then (NoPanic.then (NoPanic.body))))))))) Under.refl hS (by kernel_rfl) ?_
                refine WA.split 73 (b := decide (((t12.getD y21.toNat z63).f2) < 1)) (by kernel_rfl) (fun hc => ?_) (fun hc => ?_)
                · replace hc := of_decide_eq_true hc
                  rw [if_pos hc] at h
                  have hc43 := hc
                  clear hc
                  refine WA.pure [30, 31, 32, 33, 34, 35, 36, 37, 38, 39, 40, 41, 42, 43, 44, 45, 46, 47, 48, 49, 50, 51, 52, 53, 54, 55, 56, 57, 58, 59, 60, 61, 62, 63, 64, 65] [3, 9, 10, 11, 12, 13, 14, 109] (m := 0) (b' := 73786976294838206463) (L' := [(3, .int .i64 (IntKind.i64.wrap (1 + t1))), (9, .slice AR5 t3.length cR5), (10, .slice AR8 t6.length cR8), (11, .slice AR11 t9.length cR11), (12, .slice AR14 t12.length cR14), (13, .int .i64 y20), (14, .int .i64 y21), (109, .bool true)]) (by kernel_rfl) (NoPanic.then (NoPanic.then (NoPanic.block (NoPanic.then (NoPanic.then (NoPanic.block (NoPanic.then (NoPanic.then (NoPanic.body))))))))) Under.refl hS (by kernel_rfl) ?_
                  refine WA.done hS (by kernel_rfl) ?_
                  refine QP.pick [3, 9, 10, 11, 12, 13, 14, 109] ?_
                  refine QP.pick [3, 9, 10, 11, 12, 13, 14, 109] ?_
                  exact QP.meet ⟨_, Option.some.inj h, rfl, rfl, rfl⟩
                · replace hc := of_decide_eq_false hc
                  rw [if_neg hc] at h
                  have hc43 := hc
                  clear hc
                  refine WA.pure [30, 31, 35, 36, 39, 40] [3, 9, 10, 11, 12, 13, 14, 15, 73, 74, 75, 79, 80, 83, 84] (m := 30) (b' := 1756641624063) (L' := [(3, .int .i64 (IntKind.i64.wrap (1 + t1))), (9, .slice AR5 t3.length cR5), (10, .slice AR8 t6.length cR8), (11, .slice AR11 t9.length cR11), (12, .slice AR14 t12.length cR14), (13, .int .i64 y20), (14, .int .i64 y21), (15, .int .i64 ((t12.getD y21.toNat z63).f0)), (73, .bool false), (74, .slice AR14 t12.length cR14), (75, .int .i64 y21), (79, .slice AR8 t6.length cR8), (80, .int .i64 ((t12.getD y21.toNat z63).f0)), (83, .slice AR11 t9.length cR11), (84, .int .i64 ((t12.getD y21.toNat z63).f0))]) (by kernel_rfl) (NoPanic.then (NoPanic.then (NoPanic.block (NoPanic.then (NoPanic.then (NoPanic.block (NoPanic.then (NoPanic.then (NoPanic.body))))))))) Under.refl hS (by kernel_rfl) ?_
                  by_cases hb44 : 0 ≤ y21 ∧ y21 < (t12.length : Int)
                  case neg => rw [if_neg hb44] at h; cases h
                  rw [if_pos hb44] at h
                  refine WA.tell (i := 32) (m := 29) (b' := 1760936591359) (by kernel_rfl) (NoPanic.then (NoPanic.then (NoPanic.block (NoPanic.then (NoPanic.then (NoPanic.block (NoPanic.then (NoPanic.then (NoPanic.body))))))))) Under.refl hS (by kernel_rfl) (op := .indexAddr 60 (.tmp 74) (.tmp 75)) (ty := 0) (d := some 76) (g := some (29, false)) (by kernel_rfl) (by kernel_rfl) (by kernel_rfl) (Tells.indexAddr (A := AR14) (n := t12.length) (c := cR14) (k := .i64) (j := y21) (by kernel_rfl) (by kernel_rfl) (HR14.isSome hb44.1 hb44.2) hb44.1 hb44.2 sl60) ?_
                  refine WA.tell (i := 33) (m := 28) (b' := 1769526525951) (by kernel_rfl) (NoPanic.then (NoPanic.then (NoPanic.block (NoPanic.then (NoPanic.then (NoPanic.block (NoPanic.then (NoPanic.then (NoPanic.body))))))))) Under.refl hS (by kernel_rfl) (op := .fieldAddr 63 (.tmp 76) 1) (ty := 0) (d := some 77) (g := some (29, false)) (by kernel_rfl) (by kernel_rfl) (by kernel_rfl) (Tells.fieldElem (m := y21.toNat * 3) (A := AR14) (by kernel_rfl) (HR14.isSome hb44.1 hb44.2) fi63_1) ?_
                  refine WA.tellE (i := 34) (m := 27) (b' := 1786706395135) (by kernel_rfl) (NoPanic.then (NoPanic.then (NoPanic.block (NoPanic.then (NoPanic.then (NoPanic.block (NoPanic.then (NoPanic.then (NoPanic.body))))))))) Under.refl hS (by kernel_rfl) (op := .load 3 (.tmp 77)) (ty := 3) (d := some 78) (g := some (29, false)) (by kernel_rfl) (by kernel_rfl) (by kernel_rfl) (HR14.loadF (i := 0) rfl (agg := false) (off := 1) hb44.1 hb44.2 z63 ag3 (fun _ => rfl) (by decide) (by kernel_rfl)) ?_
                  rintro _ rfl
                  by_cases hb45 : 0 ≤ ((t12.getD y21.toNat z63).f0) ∧ ((t12.getD y21.toNat z63).f0) < (t6.length : Int)
                  case neg => rw [if_neg hb45] at h; cases h
                  rw [if_pos hb45] at h
                  refine WA.tell (i := 37) (m := 26) (b' := 1924145348607) (by kernel_rfl) (NoPanic.then (NoPanic.then (NoPanic.block (NoPanic.then (NoPanic.then (NoPanic.block (NoPanic.then (NoPanic.then (NoPanic.body))))))))) Under.refl hS (by kernel_rfl) (op := .indexAddr 52 (.tmp 79) (.tmp 80)) (ty := 0) (d := some 81) (g := some (29, false)) (by kernel_rfl) (by kernel_rfl) (by kernel_rfl) (Tells.indexAddr (A := AR8) (n := t6.length) (c := cR8) (k := .i64) (j := ((t12.getD y21.toNat z63).f0)) (by kernel_rfl) (by kernel_rfl) (HR8.isSome hb45.1 hb45.2) hb45.1 hb45.2 sl52) ?_
                  refine WA.tellE (i := 38) (m := 25) (b' := 2199023255551) (by kernel_rfl) (NoPanic.then (NoPanic.then (NoPanic.block (NoPanic.then (NoPanic.then (NoPanic.block (NoPanic.then (NoPanic.then (NoPanic.body))))))))) Under.refl hS (by kernel_rfl) (op := .load 3 (.tmp 81)) (ty := 3) (d := some 82) (g := some (29, false)) (by kernel_rfl) (by kernel_rfl) (by kernel_rfl) (HR8.load (i := 2) rfl (agg := false) hb45.1 hb45.2 0 ag3 (fun _ => rfl) (by kernel_rfl)) ?_
                  rintro _ rfl
                  by_cases hb46 : 0 ≤ ((t12.getD y21.toNat z63).f0) ∧ ((t12.getD y21.toNat z63).f0) < (t9.length : Int)
                  case neg => rw [if_neg hb46] at h; cases h
                  rw [if_pos hb46] at h
                  refine WA.tell (i := 41) (m := 24) (b' := 4398046511103) (by kernel_rfl) (NoPanic.then (NoPanic.then (NoPanic.block (NoPanic.then (NoPanic.then (NoPanic.block (NoPanic.then (NoPanic.then (NoPanic.body))))))))) Under.refl hS (by kernel_rfl) (op := .indexAddr 52 (.tmp 83) (.tmp 84)) (ty := 0) (d := some 85) (g := some (29, false)) (by kernel_rfl) (by kernel_rfl) (by kernel_rfl) (Tells.indexAddr (A := AR11) (n := t9.length) (c := cR11) (k := .i64) (j := ((t12.getD y21.toNat z63).f0)) (by kernel_rfl) (by kernel_rfl) (HR11.isSome hb46.1 hb46.2) hb46.1 hb46.2 sl52) ?_
                  refine WA.tellE (i := 42) (m := 23) (b' := 8796093022207) (by kernel_rfl) (NoPanic.then (NoPanic.then (NoPanic.block (NoPanic.then (NoPanic.then (NoPanic.block (NoPanic.then (NoPanic.then (NoPanic.body))))))))) Under.refl hS (by kernel_rfl) (op := .load 3 (.tmp 85)) (ty := 3) (d := some 86) (g := some (29, false)) (by kernel_rfl) (by kernel_rfl) (by kernel_rfl) (HR11.load (i := 1) rfl (agg := false) hb46.1 hb46.2 0 ag3 (fun _ => rfl) (by kernel_rfl)) ?_
                  rintro _ rfl
                  refine WA.pure [43, 44, 45, 46, 47] [3, 9, 10, 11, 12, 13, 14, 15, 91] (m := 18) (b' := 281474976710655) (L' := [(3, .int .i64 (IntKind.i64.wrap (1 + t1))), (9, .slice AR5 t3.length cR5), (10, .slice AR8 t6.length cR8), (11, .slice AR11 t9.length cR11), (12, .slice AR14 t12.length cR14), (13, .int .i64 y20), (14, .int .i64 y21), (15, .int .i64 ((t12.getD y21.toNat z63).f0)), (91, .bool (((t12.getD y21.toNat z63).f1) != (IntKind.i64.wrap ((if (t9.getD ((t12.getD y21.toNat z63).f0).toNat 0) > (t6.getD ((t12.getD y21.toNat z63).f0).toNat 0) then (t9.getD ((t12.getD y21.toNat z63).f0).toNat 0) else (t6.getD ((t12.getD y21.toNat z63).f0).toNat 0)) + 1))))]) (by kernel_rfl) (NoPanic.then (NoPanic.then (NoPanic.block (NoPanic.then (NoPanic.then (NoPanic.block (NoPanic.then (NoPanic.then (NoPanic.body))))))))) Under.refl hS (by kernel_rfl) ?_
                  refine WA.split 91 (b := (((t12.getD y21.toNat z63).f1) != (IntKind.i64.wrap ((if (t9.getD ((t12.getD y21.toNat z63).f0).toNat 0) > (t6.getD ((t12.getD y21.toNat z63).f0).toNat 0) then (t9.getD ((t12.getD y21.toNat z63).f0).toNat 0) else (t6.getD ((t12.getD y21.toNat z63).f0).toNat 0)) + 1)))) (by kernel_rfl) (fun hc => ?_) (fun hc => ?_)
                  · replace hc := (bne_iff_ne.1 hc)
                    rw [if_pos hc] at h
                    have hc47 := hc
                    clear hc
                    refine WA.pure [48, 49, 50, 51, 52, 53, 54, 55, 56, 57, 58, 59, 60, 61, 62, 63, 64, 65] [3, 9, 10, 11, 12, 13, 14, 109] (m := 0) (b' := 73786976294838206463) (L' := [(3, .int .i64 (IntKind.i64.wrap (1 + t1))), (9, .slice AR5 t3.length cR5), (10, .slice AR8 t6.length cR8), (11, .slice AR11 t9.length cR11), (12, .slice AR14 t12.length cR14), (13, .int .i64 y20), (14, .int .i64 y21), (109, .bool true)]) (by kernel_rfl) (NoPanic.then (NoPanic.then (NoPanic.block (NoPanic.then (NoPanic.then (NoPanic.block (NoPanic.then (NoPanic.then (NoPanic.body))))))))) Under.refl hS (by kernel_rfl) ?_
                    refine WA.done hS (by kernel_rfl) ?_
                    refine QP.pick [3, 9, 10, 11, 12, 13, 14, 109] ?_
                    refine QP.pick [3, 9, 10, 11, 12, 13, 14, 109] ?_
                    exact QP.meet ⟨_, Option.some.inj h, rfl, rfl, rfl⟩
                  · replace hc := (not_not_intro (bne_eq_false_iff_eq.1 hc))
                    rw [if_neg hc] at h
                    have hc47 := hc
                    clear hc
                    refine WA.pure [48, 49, 53, 54, 60, 61] [3, 9, 10, 11, 12, 13, 14, 91, 92, 93, 97, 98, 104, 105] (m := 12) (b' := 3486912011491606527) (L' := [(3, .int .i64 (IntKind.i64.wrap (1 + t1))), (9, .slice AR5 t3.length cR5), (10, .slice AR8 t6.length cR8), (11, .slice AR11 t9.length cR11), (12, .slice AR14 t12.length cR14), (13, .int .i64 y20), (14, .int .i64 y21), (91, .bool false), (92, .slice AR14 t12.length cR14), (93, .int .i64 y21), (97, .slice AR14 t12.length cR14), (98, .int .i64 y21), (104, .slice AR5 t3.length cR5), (105, .int .i64 ((t12.getD y21.toNat z63).f0))]) (by kernel_rfl) (NoPanic.then (NoPanic.then (NoPanic.block (NoPanic.then (NoPanic.then (NoPanic.block (NoPanic.then (NoPanic.then (NoPanic.body))))))))) Under.refl hS (by kernel_rfl) ?_
                    by_cases hb48 : 0 ≤ y21 ∧ y21 < (t12.length : Int)
                    case neg => rw [if_neg hb48] at h; cases h
                    rw [if_pos hb48] at h
                    refine WA.tell (i := 50) (m := 11) (b' := 3488037911398449151) (by kernel_rfl) (NoPanic.then (NoPanic.then (NoPanic.block (NoPanic.then (NoPanic.then (NoPanic.block (NoPanic.then (NoPanic.then (NoPanic.body))))))))) Under.refl hS (by kernel_rfl) (op := .indexAddr 60 (.tmp 92) (.tmp 93)) (ty := 0) (d := some 94) (g := some (47, false)) (by kernel_rfl) (by kernel_rfl) (by kernel_rfl) (Tells.indexAddr (A := AR14) (n := t12.length) (c := cR14) (k := .i64) (j := y21) (by kernel_rfl) (by kernel_rfl) (HR14.isSome hb48.1 hb48.2) hb48.1 hb48.2 sl60) ?_
                    refine WA.tell (i := 51) (m := 10) (b' := 3490289711212134399) (by kernel_rfl) (NoPanic.then (NoPanic.then (NoPanic.block (NoPanic.then (NoPanic.then (NoPanic.block (NoPanic.then (NoPanic.then (NoPanic.body))))))))) Under.refl hS (by kernel_rfl) (op := .fieldAddr 63 (.tmp 94) 1) (ty := 0) (d := some 95) (g := some (47, false)) (by kernel_rfl) (by kernel_rfl) (by kernel_rfl) (Tells.fieldElem (m := y21.toNat * 3) (A := AR14) (by kernel_rfl) (HR14.isSome hb48.1 hb48.2) fi63_1) ?_
                    refine WA.tellE (i := 52) (m := 9) (b' := 3494793310839504895) (by kernel_rfl) (NoPanic.then (NoPanic.then (NoPanic.block (NoPanic.then (NoPanic.then (NoPanic.block (NoPanic.then (NoPanic.then (NoPanic.body))))))))) Under.refl hS (by kernel_rfl) (op := .load 3 (.tmp 95)) (ty := 3) (d := some 96) (g := some (47, false)) (by kernel_rfl) (by kernel_rfl) (by kernel_rfl) (HR14.loadF (i := 0) rfl (agg := false) (off := 1) hb48.1 hb48.2 z63 ag3 (fun _ => rfl) (by decide) (by kernel_rfl)) ?_
                    rintro _ rfl
                    by_cases hb49 : 0 ≤ y21 ∧ y21 < (t12.length : Int)
                    case neg => rw [if_neg hb49] at h; cases h
                    rw [if_pos hb49] at h
                    refine WA.tell (i := 55) (m := 8) (b' := 3530822107858468863) (by kernel_rfl) (NoPanic.then (NoPanic.then (NoPanic.block (NoPanic.then (NoPanic.then (NoPanic.block (NoPanic.then (NoPanic.then (NoPanic.body))))))))) Under.refl hS (by kernel_rfl) (op := .indexAddr 60 (.tmp 97) (.tmp 98)) (ty := 0) (d := some 99) (g := some (47, false)) (by kernel_rfl) (by kernel_rfl) (by kernel_rfl) (Tells.indexAddr (A := AR14) (n := t12.length) (c := cR14) (k := .i64) (j := y21) (by kernel_rfl) (by kernel_rfl) (HR14.isSome hb49.1 hb49.2) hb49.1 hb49.2 sl60) ?_
                    refine WA.tell (i := 56) (m := 7) (b' := 3602879701896396799) (by kernel_rfl) (NoPanic.then (NoPanic.then (NoPanic.block (NoPanic.then (NoPanic.then (NoPanic.block (NoPanic.then (NoPanic.then (NoPanic.body))))))))) Under.refl hS (by kernel_rfl) (op := .fieldAddr 63 (.tmp 99) 2) (ty := 0) (d := some 100) (g := some (47, false)) (by kernel_rfl) (by kernel_rfl) (by kernel_rfl) (Tells.fieldElem (m := y21.toNat * 3) (A := AR14) (by kernel_rfl) (HR14.isSome hb49.1 hb49.2) fi63_2) ?_
                    refine WA.tellE (i := 57) (m := 6) (b' := 3746994889972252671) (by kernel_rfl) (NoPanic.then (NoPanic.then (NoPanic.block (NoPanic.then (NoPanic.then (NoPanic.block (NoPanic.then (NoPanic.then (NoPanic.body))))))))) Under.refl hS (by kernel_rfl) (op := .load 3 (.tmp 100)) (ty := 3) (d := some 101) (g := some (47, false)) (by kernel_rfl) (by kernel_rfl) (by kernel_rfl) (HR14.loadF (i := 0) rfl (agg := false) (off := 2) hb49.1 hb49.2 z63 ag3 (fun _ => rfl) (by decide) (by kernel_rfl)) ?_
                    rintro _ rfl
                    refine WA.pure [58, 59] [3, 9, 10, 11, 12, 13, 14, 91, 103, 104, 105] (m := 4) (b' := 4611686018427387903) (L' := [(3, .int .i64 (IntKind.i64.wrap (1 + t1))), (9, .slice AR5 t3.length cR5), (10, .slice AR8 t6.length cR8), (11, .slice AR11 t9.length cR11), (12, .slice AR14 t12.length cR14), (13, .int .i64 y20), (14, .int .i64 y21), (91, .bool false), (103, .int .i64 (IntKind.i64.wrap ((IntKind.i64.wrap (((t12.getD y21.toNat z63).f1) + ((t12.getD y21.toNat z63).f2))) - 1))), (104, .slice AR5 t3.length cR5), (105, .int .i64 ((t12.getD y21.toNat z63).f0))]) (by kernel_rfl) (NoPanic.then (NoPanic.then (NoPanic.block (NoPanic.then (NoPanic.then (NoPanic.block (NoPanic.then (NoPanic.then (NoPanic.body))))))))) Under.refl hS (by kernel_rfl) ?_
                    by_cases hb50 : 0 ≤ ((t12.getD y21.toNat z63).f0) ∧ ((t12.getD y21.toNat z63).f0) < (t3.length : Int)
                    case neg => rw [if_neg hb50] at h; cases h
                    rw [if_pos hb50] at h
                    refine WA.tell (i := 62) (m := 3) (b' := 9223372036854775807) (by kernel_rfl) (NoPanic.then (NoPanic.then (NoPanic.block (NoPanic.then (NoPanic.then (NoPanic.block (NoPanic.then (NoPanic.then (NoPanic.body))))))))) Under.refl hS (by kernel_rfl) (op := .indexAddr 52 (.tmp 104) (.tmp 105)) (ty := 0) (d := some 106) (g := some (47, false)) (by kernel_rfl) (by kernel_rfl) (by kernel_rfl) (Tells.indexAddr (A := AR5) (n := t3.length) (c := cR5) (k := .i64) (j := ((t12.getD y21.toNat z63).f0)) (by kernel_rfl) (by kernel_rfl) (HR5.isSome hb50.1 hb50.2) hb50.1 hb50.2 sl52) ?_
                    refine WA.tellE (i := 63) (m := 2) (b' := 18446744073709551615) (by kernel_rfl) (NoPanic.then (NoPanic.then (NoPanic.block (NoPanic.then (NoPanic.then (NoPanic.block (NoPanic.then (NoPanic.then (NoPanic.body))))))))) Under.refl hS (by kernel_rfl) (op := .load 3 (.tmp 106)) (ty := 3) (d := some 107) (g := some (47, false)) (by kernel_rfl) (by kernel_rfl) (by kernel_rfl) (HR5.load (i := 3) rfl (agg := false) hb50.1 hb50.2 0 ag3 (fun _ => rfl) (by kernel_rfl)) ?_
                    rintro _ rfl
                    refine WA.pure [64, 65] [3, 9, 10, 11, 12, 13, 14, 109] (m := 0) (b' := 73786976294838206463) (L' := [(3, .int .i64 (IntKind.i64.wrap (1 + t1))), (9, .slice AR5 t3.length cR5), (10, .slice AR8 t6.length cR8), (11, .slice AR11 t9.length cR11), (12, .slice AR14 t12.length cR14), (13, .int .i64 y20), (14, .int .i64 y21), (109, .bool ((IntKind.i64.wrap ((IntKind.i64.wrap (((t12.getD y21.toNat z63).f1) + ((t12.getD y21.toNat z63).f2))) - 1)) != (t3.getD ((t12.getD y21.toNat z63).f0).toNat 0)))]) (by kernel_rfl) (NoPanic.then (NoPanic.then (NoPanic.block (NoPanic.then (NoPanic.then (NoPanic.block (NoPanic.then (NoPanic.then (NoPanic.body))))))))) Under.refl hS (by kernel_rfl) ?_
                    refine WA.done hS (by kernel_rfl) ?_
                    refine QP.pick [3, 9, 10, 11, 12, 13, 14, 109] ?_
                    refine QP.pick [3, 9, 10, 11, 12, 13, 14, 109] ?_
                    exact QP.meet ⟨_, Option.some.inj h, rfl, rfl, rfl⟩
        · rintro _ _ _ ⟨s26, rfl, rfl, rfl, rfl⟩
          clear h
          replace h := hk27
          refine WP.cond (b := s26) (by kernel_rfl) (fun hc => ?_) (fun hc => ?_)
          · replace hc := hc
            rw [if_pos hc] at h
            have hc51 := hc
            clear hc
            refine WP.seqP [8] (L' := [(8, .bool false)]) (by kernel_rfl) ?_
            refine WP.dropAt 3 ?_
            refine WP.dropAt 2 ?_
            refine WP.dropAt 1 ?_
            refine WP.dropAt 0 ?_
            refine WP.ret ?_
            refine QP.thenR ?_
            refine QP.blockR ?_
            refine QP.thenR ?_
            refine QP.thenR ?_
            refine QP.blockR ?_
            refine QP.thenR ?_
            refine QP.thenR ?_
            obtain rfl := Option.some.inj h
            obtain rfl := Option.some.inj (show some _ = some _ from hk19)
            exact QP.returned [8] [.bool false] _ (by kernel_rfl) (by kernel_rfl) (by kernel_rfl) (fun W hI => ⟨_, _, _, rfl, ⟨rfl, rfl, rfl⟩, hI⟩)
          · replace hc := (Bool.eq_false_iff.1 hc)
            rw [if_neg hc] at h
            have hc51 := hc
            clear hc
            refine WP.skip ?_
            refine QP.next ?_
            refine WP.pick [3, 9, 10, 11, 12, 13, 14] ?_
            refine WP.region ?_
            refine WL.pure 0 3 [3, 9, 10, 11, 12, 13, 14, 110, 111, 112] (L' := [(3, .int .i64 (IntKind.i64.wrap (1 + t1))), (9, .slice AR5 t3.length cR5), (10, .slice AR8 t6.length cR8), (11, .slice AR11 t9.length cR11), (12, .slice AR14 t12.length cR14), (13, .int .i64 y20), (14, .int .i64 y21), (110, .int .i64 y20), (111, .slice AR14 t12.length cR14), (112, .int .i64 y21)]) (by kernel_rfl) (by decide) ?_
            by_cases hb52 : 0 ≤ y21 ∧ y21 < (t12.length : Int)
            case neg => rw [if_neg hb52] at h; cases h
            rw [if_pos hb52] at h
            refine WL.tell (op := .indexAddr 60 (.tmp 111) (.tmp 112)) (ty := 0) (d := some 113) (g := none) (by kernel_rfl) (by kernel_rfl) (by kernel_rfl) (Tells.indexAddr (A := AR14) (n := t12.length) (c := cR14) (k := .i64) (j := y21) (by kernel_rfl) (by kernel_rfl) (HR14.isSome hb52.1 hb52.2) hb52.1 hb52.2 sl60) ?_
            refine WL.tell (op := .fieldAddr 63 (.tmp 113) 2) (ty := 0) (d := some 114) (g := none) (by kernel_rfl) (by kernel_rfl) (by kernel_rfl) (Tells.fieldElem (m := y21.toNat * 3) (A := AR14) (by kernel_rfl) (HR14.isSome hb52.1 hb52.2) fi63_2) ?_
            refine WL.tellE (op := .load 3 (.tmp 114)) (ty := 3) (d := some 115) (g := none) (by kernel_rfl) (by kernel_rfl) (by kernel_rfl) (HR14.loadF (i := 0) rfl (agg := false) (off := 2) hb52.1 hb52.2 z63 ag3 (fun _ => rfl) (by decide) (by kernel_rfl)) ?_
            rintro _ rfl
            refine WL.rest 6 [3, 9, 10, 11, 12, 13, 14] (L' := [(3, .int .i64 (IntKind.i64.wrap (1 + t1))), (9, .slice AR5 t3.length cR5), (10, .slice AR8 t6.length cR8), (11, .slice AR11 t9.length cR11), (12, .slice AR14 t12.length cR14), (13, .int .i64 (IntKind.i64.wrap (y20 + ((t12.getD y21.toNat z63).f2)))), (14, .int .i64 y21)]) (by kernel_rfl) ?_
            refine QP.blockN ?_
            refine QP.next ?_
            refine WP.pick [3, 9, 10, 11, 12, 13, 14] ?_
            refine WP.regionP [3, 9, 10, 11, 12, 13, 14] (L' := [(3, .int .i64 (IntKind.i64.wrap (1 + t1))), (9, .slice AR5 t3.length cR5), (10, .slice AR8 t6.length cR8), (11, .slice AR11 t9.length cR11), (12, .slice AR14 t12.length cR14), (13, .int .i64 (IntKind.i64.wrap (y20 + ((t12.getD y21.toNat z63).f2)))), (14, .int .i64 (IntKind.i64.wrap (y21 + 1)))]) (by kernel_rfl) ?_
            refine QP.front (i := 3) rfl ?_
            refine QP.front (i := 3) rfl ?_
            refine QP.front (i := 3) rfl ?_
            refine QP.front (i := 3) rfl ?_
            refine QP.pick [3, 9, 10, 11, 12, 13, 14] ?_
            exact QP.meet ⟨k23, Nat.lt_succ_self _, (IntKind.i64.wrap (y20 + ((t12.getD y21.toNat z63).f2))), (IntKind.i64.wrap (y21 + 1)), h, rfl, rfl, rfl⟩
      · replace hc := of_decide_eq_false hc
        rw [if_neg hc] at h
        have hc24 := hc
        clear hc
        refine WP.exit ?_
        refine QP.thenE ?_
        refine QP.thenE ?_
        refine QP.blockE ?_
        refine QP.pick [9, 10, 11, 13] ?_
        exact QP.meet ⟨_, Option.some.inj h, rfl, rfl, rfl⟩
  · rintro _ _ _ ⟨s18, rfl, rfl, rfl, rfl⟩
    clear h
    replace h := hk19
    refine QP.next ?_
    refine WP.pick [9, 10, 11, 13] ?_
    refine WP.seqR ?_
    refine WL.pure 0 3 [9, 10, 11, 13, 117, 118, 119] (L' := [(9, .slice AR5 t3.length cR5), (10, .slice AR8 t6.length cR8), (11, .slice AR11 t9.length cR11), (13, .int .i64 s18), (117, .slice AR5 t3.length cR5), (118, .slice AR8 t6.length cR8), (119, .slice AR11 t9.length cR11)]) (by kernel_rfl) (by decide) ?_
    refine WL.op (op := .buildSlice 84 3 #[(0, (.tmp 117)), (1, (.tmp 118)), (2, (.tmp 119))]) (ty := 84) (d := some 120) (g := none) (by kernel_rfl) (by kernel_rfl) (by kernel_rfl) (Does.new (o := .cells #[.slice AR5 t3.length cR5, .slice AR8 t6.length cR8, .slice AR11 t9.length cR11] 52 (0, 0)) (v := fun r => .slice (some ⟨r, 0, none⟩) 3 3) (fun r => by kernel_rfl)) ?_
    rintro _ _ _ ⟨b53, rfl, rfl, rfl⟩
    rw [Option.bind_eq_some_iff] at h
    obtain ⟨t56, ht57, h⟩ := h
    refine WL.op (op := .call { callee := (.value (.func 33)), args := #[(.tmp 120)], argTypes := #[84] }) (ty := 52) (d := some 121) (g := none) (by kernel_rfl) (by kernel_rfl) (by kernel_rfl) (Does.call (Φ := fun v' G' Γ' => ∃ (AR58 : Option Addr), ∃ (cR58 : Nat), ∃ (CR58 : Chunk), v' = .slice AR58 t56.length cR58 ∧ Ow (kInt .i64) G AR58 cR58 t56 CR58 ∧ G = G' ∧ CR58 :: [(b53, .cells #[.slice AR5 t3.length cR5, .slice AR8 t6.length cR8, .slice AR11 t9.length cR11] 52 (0, 0))] :: CR14 :: CR11 :: CR8 :: CR5 :: Γ = Γ') (f := 33) (args := [.slice (some ⟨b53, 0, none⟩) ([t3, t6, t9] : List (List Int)).length 3]) (by kernel_rfl) (fun W hI => (Calls.lendR (Φ := fun v' N => ∃ (AR58 : Option Addr), ∃ (cR58 : Nat), ∃ (CR58 : Chunk), v' = .slice AR58 t56.length cR58 ∧ Ow (kInt .i64) G AR58 cR58 t56 CR58 ∧ N = [CR58]) (i := 4) rfl (Ow.nodup HR5) hI (fun _ e l59 hI => by subst e; exact Calls.lendR (Φ := fun v' N => ∃ (AR58 : Option Addr), ∃ (cR58 : Nat), ∃ (CR58 : Chunk), v' = .slice AR58 t56.length cR58 ∧ Ow (kInt .i64) G AR58 cR58 t56 CR58 ∧ N = [CR58]) (i := 3) rfl (Ow.nodup (HR8.mono l59)) hI (fun _ e l60 hI => by subst e; exact Calls.lendR (Φ := fun v' N => ∃ (AR58 : Option Addr), ∃ (cR58 : Nat), ∃ (CR58 : Chunk), v' = .slice AR58 t56.length cR58 ∧ Ow (kInt .i64) G AR58 cR58 t56 CR58 ∧ N = [CR58]) (i := 2) rfl (Ow.nodup ((HR11.mono l59).mono l60)) hI (fun _ e l61 hI => by subst e; exact Calls.lendR (Φ := fun v' N => ∃ (AR58 : Option Addr), ∃ (cR58 : Nat), ∃ (CR58 : Chunk), v' = .slice AR58 t56.length cR58 ∧ Ow (kInt .i64) G AR58 cR58 t56 CR58 ∧ N = [CR58]) (i := 0) rfl (by simp) hI (fun _ e l62 hI => by subst e; exact ((vector_Join_calls k ([t3, t6, t9] : List (List Int)) (some ⟨b53, 0, none⟩) 3 ((Ow.lit (kd := (kSlice (kInt .i64))) (b := b53) (T := 52) (xs := ([t3, t6, t9] : List (List Int))) (cs := [.slice AR5 t3.length cR5, .slice AR8 t6.length cR8, .slice AR11 t9.length cR11]) (.cons (x := t3) (cs := [.slice AR5 t3.length cR5]) ⟨AR5, cR5, rfl, (((HR5.rd l59).mono l60).mono l61)⟩ (.cons (x := t6) (cs := [.slice AR8 t6.length cR8]) ⟨AR8, cR8, rfl, (((HR8.mono l59).rd l60).mono l61)⟩ (.cons (x := t9) (cs := [.slice AR11 t9.length cR11]) ⟨AR11, cR11, rfl, (((HR11.mono l59).mono l60).rd l61)⟩ .nil)))).rd l62) t56 ht57 hI).mono fun _ _ hr => by obtain ⟨_, _, _, rfl, ⟨AR58, cR58, CR58, rfl, HR58, rfl, rfl⟩, hI⟩ := hr; exact ⟨_, _, _, rfl, ⟨[CR58], ⟨AR58, cR58, CR58, rfl, (HR58.flat (kInt_flat _)), rfl⟩, rfl, rfl⟩, hI⟩)))))).mono fun _ _ hr => by obtain ⟨_, _, _, rfl, ⟨_, ⟨AR58, cR58, CR58, rfl, HR58, rfl⟩, rfl, rfl⟩, hI⟩ := hr; exact ⟨_, _, _, rfl, ⟨AR58, cR58, CR58, rfl, HR58, rfl, rfl⟩, hI⟩)) ?_
    rintro _ _ _ ⟨AR58, cR58, CR58, rfl, HR58, rfl, rfl⟩
    refine WL.restQ 5 [9, 10, 11, 13, 16] (L' := [(9, .slice AR5 t3.length cR5), (10, .slice AR8 t6.length cR8), (11, .slice AR11 t9.length cR11), (13, .int .i64 s18), (16, .slice AR58 t56.length cR58)]) (by kernel_rfl) ?_
    refine WP.dropAt 2 ?_
    refine WP.dropAt 1 ?_
    rw [Option.bind_eq_some_iff] at h
    obtain ⟨os63, h, hk64⟩ := h
    refine WP.cut (fun L' G' Γ' => ∃ s63 : Bool, s63 = os63 ∧ L' = [(8, .bool s63)] ∧ G = G' ∧ CR58 :: CR11 :: CR8 :: CR5 :: Γ = Γ') ?_ ?_
    · clear hk64
      refine WP.region ?_
      refine WL.pure 0 2 [9, 10, 11, 16, 122, 123] (L' := [(9, .slice AR5 t3.length cR5), (10, .slice AR8 t6.length cR8), (11, .slice AR11 t9.length cR11), (16, .slice AR58 t56.length cR58), (122, .int .i64 s18), (123, .slice AR58 t56.length cR58)]) (by kernel_rfl) (by decide) ?_
      rw [Option.bind_eq_some_iff] at h
      obtain ⟨t65, ht66, h⟩ := h
      refine WL.op (op := .call { callee := (.value (.func 38)), args := #[(.tmp 123)], argTypes := #[52] }) (ty := 3) (d := some 124) (g := none) (by kernel_rfl) (by kernel_rfl) (by kernel_rfl) (Does.call (Φ := fun v' G' Γ' => v' = .int .i64 t65 ∧ G = G' ∧ CR58 :: CR11 :: CR8 :: CR5 :: Γ = Γ') (f := 38) (args := [.slice AR58 t56.length cR58]) (by kernel_rfl) (fun W hI => Calls.lend (i := 0) rfl (Ow.nodup HR58) hI (fun _ e l67 hI => by subst e; exact (vector_Sum_calls k t56 AR58 cR58 (HR58.rd l67) t65 ht66 hI)))) ?_
      rintro _ _ _ ⟨rfl, rfl, rfl⟩
      refine WL.pure 3 5 [9, 11, 16, 122, 124, 125, 126] (L' := [(9, .slice AR5 t3.length cR5), (11, .slice AR11 t9.length cR11), (16, .slice AR58 t56.length cR58), (122, .int .i64 s18), (124, .int .i64 t65), (125, .slice AR8 t6.length cR8), (126, .slice AR11 t9.length cR11)]) (by kernel_rfl) (by decide) ?_
      refine WL.op (op := .buildSlice 84 2 #[(0, (.tmp 125)), (1, (.tmp 126))]) (ty := 84) (d := some 127) (g := none) (by kernel_rfl) (by kernel_rfl) (by kernel_rfl) (Does.new (o := .cells #[.slice AR8 t6.length cR8, .slice AR11 t9.length cR11] 52 (0, 0)) (v := fun r => .slice (some ⟨r, 0, none⟩) 2 2) (fun r => by kernel_rfl)) ?_
      rintro _ _ _ ⟨b68, rfl, rfl, rfl⟩
      rw [Option.bind_eq_some_iff] at h
      obtain ⟨t71, ht72, h⟩ := h
      refine WL.op (op := .call { callee := (.value (.func 33)), args := #[(.tmp 127)], argTypes := #[84] }) (ty := 52) (d := some 128) (g := none) (by kernel_rfl) (by kernel_rfl) (by kernel_rfl) (Does.call (Φ := fun v' G' Γ' => ∃ (AR73 : Option Addr), ∃ (cR73 : Nat), ∃ (CR73 : Chunk), v' = .slice AR73 t71.length cR73 ∧ Ow (kInt .i64) G AR73 cR73 t71 CR73 ∧ G = G' ∧ CR73 :: [(b68, .cells #[.slice AR8 t6.length cR8, .slice AR11 t9.length cR11] 52 (0, 0))] :: CR58 :: CR11 :: CR8 :: CR5 :: Γ = Γ') (f := 33) (args := [.slice (some ⟨b68, 0, none⟩) ([t6, t9] : List (List Int)).length 2]) (by kernel_rfl) (fun W hI => (Calls.lendR (Φ := fun v' N => ∃ (AR73 : Option Addr), ∃ (cR73 : Nat), ∃ (CR73 : Chunk), v' = .slice AR73 t71.length cR73 ∧ Ow (kInt .i64) G AR73 cR73 t71 CR73 ∧ N = [CR73]) (i := 3) rfl (Ow.nodup HR8) hI (fun _ e l74 hI => by subst e; exact Calls.lendR (Φ := fun v' N => ∃ (AR73 : Option Addr), ∃ (cR73 : Nat), ∃ (CR73 : Chunk), v' = .slice AR73 t71.length cR73 ∧ Ow (kInt .i64) G AR73 cR73 t71 CR73 ∧ N = [CR73]) (i := 2) rfl (Ow.nodup (HR11.mono l74)) hI (fun _ e l75 hI => by subst e; exact Calls.lendR (Φ := fun v' N => ∃ (AR73 : Option Addr), ∃ (cR73 : Nat), ∃ (CR73 : Chunk), v' = .slice AR73 t71.length cR73 ∧ Ow (kInt .i64) G AR73 cR73 t71 CR73 ∧ N = [CR73]) (i := 0) rfl (by simp) hI (fun _ e l76 hI => by subst e; exact ((vector_Join_calls k ([t6, t9] : List (List Int)) (some ⟨b68, 0, none⟩) 2 ((Ow.lit (kd := (kSlice (kInt .i64))) (b := b68) (T := 52) (xs := ([t6, t9] : List (List Int))) (cs := [.slice AR8 t6.length cR8, .slice AR11 t9.length cR11]) (.cons (x := t6) (cs := [.slice AR8 t6.length cR8]) ⟨AR8, cR8, rfl, ((HR8.rd l74).mono l75)⟩ (.cons (x := t9) (cs := [.slice AR11 t9.length cR11]) ⟨AR11, cR11, rfl, ((HR11.mono l74).rd l75)⟩ .nil))).rd l76) t71 ht72 hI).mono fun _ _ hr => by obtain ⟨_, _, _, rfl, ⟨AR73, cR73, CR73, rfl, HR73, rfl, rfl⟩, hI⟩ := hr; exact ⟨_, _, _, rfl, ⟨[CR73], ⟨AR73, cR73, CR73, rfl, (HR73.flat (kInt_flat _)), rfl⟩, rfl, rfl⟩, hI⟩))))).mono fun _ _ hr => by obtain ⟨_, _, _, rfl, ⟨_, ⟨AR73, cR73, CR73, rfl, HR73, rfl⟩, rfl, rfl⟩, hI⟩ := hr; exact ⟨_, _, _, rfl, ⟨AR73, cR73, CR73, rfl, HR73, rfl, rfl⟩, hI⟩)) ?_
      rintro _ _ _ ⟨AR73, cR73, CR73, rfl, HR73, rfl, rfl⟩
      rw [Option.bind_eq_some_iff] at h
      obtain ⟨t77, ht78, h⟩ := h
      refine WL.op (op := .call { callee := (.value (.func 38)), args := #[(.tmp 128)], argTypes := #[52] }) (ty := 3) (d := some 129) (g := none) (by kernel_rfl) (by kernel_rfl) (by kernel_rfl) (Does.call (Φ := fun v' G' Γ' => v' = .int .i64 t77 ∧ G = G' ∧ CR73 :: [(b68, .cells #[.slice AR8 t6.length cR8, .slice AR11 t9.length cR11] 52 (0, 0))] :: CR58 :: CR11 :: CR8 :: CR5 :: Γ = Γ') (f := 38) (args := [.slice AR73 t71.length cR73]) (by kernel_rfl) (fun W hI => Calls.lend (i := 0) rfl (Ow.nodup HR73) hI (fun _ e l79 hI => by subst e; exact (vector_Sum_calls k t71 AR73 cR73 (HR73.rd l79) t77 ht78 hI)))) ?_
      rintro _ _ _ ⟨rfl, rfl, rfl⟩
      refine WL.pure 8 11 [9, 11, 16, 132] (L' := [(9, .slice AR5 t3.length cR5), (11, .slice AR11 t9.length cR11), (16, .slice AR58 t56.length cR58), (132, .bool (s18 == (IntKind.i64.wrap (t65 - t77))))]) (by kernel_rfl) (by decide) ?_
      refine WL.split 132 (b := (s18 == (IntKind.i64.wrap (t65 - t77)))) (by kernel_rfl) (fun hc => ?_) (fun hc => ?_)
      · replace hc := eq_of_beq hc
        rw [if_pos hc] at h
        have hc80 := hc
        clear hc
        refine WL.pure 11 14 [132, 133, 134, 135] (L' := [(132, .bool true), (133, .slice AR5 t3.length cR5), (134, .slice AR58 t56.length cR58), (135, .slice AR11 t9.length cR11)]) (by kernel_rfl) (by decide) ?_
        rw [Option.bind_eq_some_iff] at h
        obtain ⟨t81, ht82, h⟩ := h
        refine WL.op (op := .call { callee := (.value (.func 40)), args := #[(.tmp 133), (.tmp 134), (.tmp 135)], argTypes := #[52, 52, 52] }) (ty := 60) (d := some 136) (g := some (10, true)) (by kernel_rfl) (by kernel_rfl) (by kernel_rfl) (Does.call (Φ := fun v' G' Γ' => ∃ (AR83 : Option Addr), ∃ (cR83 : Nat), ∃ (CR83 : Chunk), v' = .slice AR83 t81.length cR83 ∧ Ow k63 G AR83 cR83 t81 CR83 ∧ G = G' ∧ CR83 :: CR73 :: [(b68, .cells #[.slice AR8 t6.length cR8, .slice AR11 t9.length cR11] 52 (0, 0))] :: CR58 :: CR11 :: CR8 :: CR5 :: Γ = Γ') (f := 40) (args := [.slice AR5 t3.length cR5, .slice AR58 t56.length cR58, .slice AR11 t9.length cR11]) (by kernel_rfl) (fun W hI => (Calls.lendR (Φ := fun v' N => ∃ (AR83 : Option Addr), ∃ (cR83 : Nat), ∃ (CR83 : Chunk), v' = .slice AR83 t81.length cR83 ∧ Ow k63 G AR83 cR83 t81 CR83 ∧ N = [CR83]) (i := 5) rfl (Ow.nodup HR5) hI (fun _ e l84 hI => by subst e; exact Calls.lendR (Φ := fun v' N => ∃ (AR83 : Option Addr), ∃ (cR83 : Nat), ∃ (CR83 : Chunk), v' = .slice AR83 t81.length cR83 ∧ Ow k63 G AR83 cR83 t81 CR83 ∧ N = [CR83]) (i := 2) rfl (Ow.nodup (HR58.mono l84)) hI (fun _ e l85 hI => by subst e; exact Calls.lendR (Φ := fun v' N => ∃ (AR83 : Option Addr), ∃ (cR83 : Nat), ∃ (CR83 : Chunk), v' = .slice AR83 t81.length cR83 ∧ Ow k63 G AR83 cR83 t81 CR83 ∧ N = [CR83]) (i := 3) rfl (Ow.nodup ((HR11.mono l84).mono l85)) hI (fun _ e l86 hI => by subst e; exact ((vector_Lack_calls k t3 t56 t9 AR5 cR5 (((HR5.rd l84).mono l85).mono l86) AR58 cR58 (((HR58.mono l84).rd l85).mono l86) AR11 cR11 (((HR11.mono l84).mono l85).rd l86) t81 ht82 hI).mono fun _ _ hr => by obtain ⟨_, _, _, rfl, ⟨AR83, cR83, CR83, rfl, HR83, rfl, rfl⟩, hI⟩ := hr; exact ⟨_, _, _, rfl, ⟨[CR83], ⟨AR83, cR83, CR83, rfl, (HR83.flat (kFlat_flat _ _ _ _)), rfl⟩, rfl, rfl⟩, hI⟩))))).mono fun _ _ hr => by obtain ⟨_, _, _, rfl, ⟨_, ⟨AR83, cR83, CR83, rfl, HR83, rfl⟩, rfl, rfl⟩, hI⟩ := hr; exact ⟨_, _, _, rfl, ⟨AR83, cR83, CR83, rfl, HR83, rfl, rfl⟩, hI⟩)) ?_
        rintro _ _ _ ⟨AR83, cR83, CR83, rfl, HR83, rfl, rfl⟩
        refine WL.pure 15 19 [140] (L' := [(140, .bool ((t81.length : Int) == 0))]) (by kernel_rfl) (by decide) ?_
        refine WL.split 140 (b := ((t81.length : Int) == 0)) (by kernel_rfl) (fun hc => ?_) (fun hc => ?_)
        · replace hc := eq_of_beq hc
          rw [if_pos hc] at h
          have hc87 := hc
          clear hc
          rw [Option.bind_eq_some_iff] at h
          obtain ⟨t88, ht89, h⟩ := h
          refine WL.op (op := .call { callee := (.value (.func 39)), args := #[], argTypes := #[] }) (ty := 4) (d := some 141) (g := some (18, true)) (by kernel_rfl) (by kernel_rfl) (by kernel_rfl) (Does.call (f := 39) (args := []) (by kernel_rfl) (fun W hI => (grapevinelaw3_awake_calls k   t88 ht89 hI))) ?_
          rintro _ _ _ ⟨rfl, rfl, rfl⟩
          refine WL.rest 20 [8] (L' := [(8, .bool t88)]) (by kernel_rfl) ?_
          refine QP.dropAt 2 ?_
          refine QP.dropAt 1 ?_
          refine QP.dropAt 0 ?_
          refine QP.pick [8] ?_
          exact QP.meet ⟨_, Option.some.inj h, rfl, rfl, rfl⟩
        · replace hc := ne_of_beq_false hc
          rw [if_neg hc] at h
          have hc87 := hc
          clear hc
          refine WL.rest 19 [8] (L' := [(8, .bool false)]) (by kernel_rfl) ?_
          refine QP.dropAt 2 ?_
          refine QP.dropAt 1 ?_
          refine QP.dropAt 0 ?_
          refine QP.pick [8] ?_
          exact QP.meet ⟨_, Option.some.inj h, rfl, rfl, rfl⟩
      · replace hc := ne_of_beq_false hc
        rw [if_neg hc] at h
        have hc80 := hc
        clear hc
        refine WL.rest 11 [8] (L' := [(8, .bool false)]) (by kernel_rfl) ?_
        refine QP.dropAt 1 ?_
        refine QP.dropAt 0 ?_
        refine QP.pick [8] ?_
        exact QP.meet ⟨_, Option.some.inj h, rfl, rfl, rfl⟩
    · rintro _ _ _ ⟨s63, rfl, rfl, rfl, rfl⟩
      clear h
      replace h := hk64
      refine WP.ret ?_
      obtain rfl := Option.some.inj h
      refine QP.dropAt 3 ?_
      refine QP.dropAt 2 ?_
      refine QP.dropAt 1 ?_
      refine QP.dropAt 0 ?_
      exact QP.returned [8] [.bool s63] _ (by kernel_rfl) (by kernel_rfl) (by kernel_rfl) (fun W hI => ⟨_, _, _, rfl, ⟨rfl, rfl, rfl⟩, hI⟩)
/-- The plain law. -/
def VectorLacks_Pure : Prop := ∀ (l0 : List Int) (l1 : List Int) (l2 : List Int) (a3 : Int), (l0.length ≤ maxLen ∧ ∀ z0 ∈ l0, (Lit.int .i64 z0).wf = true) → (l1.length ≤ maxLen ∧ ∀ z0 ∈ l1, (Lit.int .i64 z0).wf = true) → (l2.length ≤ maxLen ∧ ∀ z0 ∈ l2, (Lit.int .i64 z0).wf = true) → (Lit.int .i64 a3).wf = true → ∃ k, grapevinelaw3_VectorLacks k l0 l1 l2 a3 = some true
end Go.Proofs.Ytmphcmgbognmnaa.Gf
