/- Walks of Go functions: what each tells, as a plain Lean function, and that the Go code comes to it. Written by gg.py of this repo. -/
import Derived.Test.YtmphcmgbognmnaaT
import Derived.Test.YtmphcmgbognmnaaF0
namespace Go.Proofs.Ytmphcmgbognmnaa.Gf
open Go Go.Gg
set_option maxRecDepth 100000
set_option linter.unusedVariables false
set_option linter.unusedSimpArgs false

/-! ### grapevine/grapevinelaw3.VectorZeros: function 12 -/
def grapevinelaw3_VectorZeros (k : Nat) (l0 : List Int) (a1 : Int) (a2 : Int) : Option Bool := ((grapevinelaw0_Low a1 8).bind fun t1 => ((grapevinelaw0_Low a2 8).bind fun t3 => ((grapevinelaw3_low k l0 (IntKind.i64.wrap (1 + t1))).bind fun t5 => ((vector_Zero (IntKind.i64.wrap (1 + t1))).bind fun t8 => (((vector_Join k ([t5, t8] : List (List Int))).bind fun t16 => ((grapevinelaw0_SameInts k t16 t5).bind fun t22 => (if (!t22) = true then some true else ((vector_Meet k ([t5, t8] : List (List Int))).bind fun t30 => ((grapevinelaw0_SameInts k t30 t8).bind fun t36 => (if (!t36) = true then some true else ((vector_Join k ([t5, t5, t5] : List (List Int))).bind fun t44 => ((grapevinelaw0_SameInts k t44 t5).bind fun t49 => (if (!t49) = true then some true else ((vector_Below k t8 t5).bind fun t54 => (if (!t54) = true then some true else ((vector_Sum k t8).bind fun t59 => some (t59 != 0))))))))))))).bind fun s11 => (if s11 = true then some false else ((vector_Zero (IntKind.i64.wrap (1 + t3))).bind fun t63 => ((if (IntKind.i64.wrap (1 + t1)) = (IntKind.i64.wrap (1 + t3)) then ((vector_May k t8 (IntKind.i64.wrap (1 + t1))).bind fun t69 => (if t69 = true then ((grapevinelaw3_awake k ).bind fun t73 => some t73) else some false)) else ((vector_Join k ([t5, t63] : List (List Int))).bind fun t78 => (if (t78.length : Int) = 0 then ((vector_Meet k ([t5, t63] : List (List Int))).bind fun t88 => (if (t88.length : Int) = 0 then ((vector_Below k t63 t5).bind fun t95 => (if (!t95) = true then ((vector_Lack k t5 t63 t5).bind fun t100 => (if (t100.length : Int) = 0 then ((vector_May k t8 (IntKind.i64.wrap (1 + t1))).bind fun t106 => (if t106 = true then ((grapevinelaw3_awake k ).bind fun t110 => some t110) else some false)) else some false)) else some false)) else some false)) else some false))).bind fun s66 => some s66))))))))
set_option maxHeartbeats 4000000 in
theorem grapevinelaw3_VectorZeros_calls {B : World} {G : GMap} {Γ : List Chunk} {W : World} (k : Nat) (l0 : List Int) (a1 : Int) (a2 : Int) (Al0 : Option Addr) (cl0 : Nat) (Hl0 : Rd (kInt .i64) G Al0 cl0 l0) (r : Bool) (h : grapevinelaw3_VectorZeros k l0 a1 a2 = some r) (hI : Inv B G (Γ) W) :
    Calls Try.prog 12 [.slice Al0 l0.length cl0, .int .i64 a1, .int .i64 a2].toArray W (Ret B (fun v G' Γ' => v = .bool r ∧ G = G' ∧ Γ = Γ')) := by
  refine calls_WP (Γ := Γ) (G := G) (B := B) Try.func12 rfl (by kernel_rfl) ?_ hI
  clear hI
  unfold grapevinelaw3_VectorZeros at h
  refine WP.seqP [0, 1, 2] (L' := [(0, .slice Al0 l0.length cl0), (1, .int .i64 a1), (2, .int .i64 a2)]) (by kernel_rfl) ?_
  refine WP.seqR ?_
  refine WL.pure 0 1 [0, 1, 2, 10] (L' := [(0, .slice Al0 l0.length cl0), (1, .int .i64 a1), (2, .int .i64 a2), (10, .int .i64 a1)]) (by kernel_rfl) (by decide) ?_
  rw [Option.bind_eq_some_iff] at h
  obtain ⟨t1, ht2, h⟩ := h
  refine WL.op (op := .call { callee := (.value (.func 31)), args := #[(.tmp 10), (.const (.int .i64 8))], argTypes := #[3, 3] }) (ty := 3) (d := some 11) (g := none) (by kernel_rfl) (by kernel_rfl) (by kernel_rfl) (Does.call (f := 31) (args := [.int .i64 a1, .int .i64 8]) (by kernel_rfl) (fun W hI => (grapevinelaw0_Low_calls a1 8  t1 ht2 hI))) ?_
  rintro _ _ _ ⟨rfl, rfl, rfl⟩
  refine WL.pure 2 4 [0, 1, 2, 12, 13] (L' := [(0, .slice Al0 l0.length cl0), (1, .int .i64 a1), (2, .int .i64 a2), (12, .int .i64 (IntKind.i64.wrap (1 + t1))), (13, .int .i64 a2)]) (by kernel_rfl) (by decide) ?_
  rw [Option.bind_eq_some_iff] at h
  obtain ⟨t3, ht4, h⟩ := h
  refine WL.op (op := .call { callee := (.value (.func 31)), args := #[(.tmp 13), (.const (.int .i64 8))], argTypes := #[3, 3] }) (ty := 3) (d := some 14) (g := none) (by kernel_rfl) (by kernel_rfl) (by kernel_rfl) (Does.call (f := 31) (args := [.int .i64 a2, .int .i64 8]) (by kernel_rfl) (fun W hI => (grapevinelaw0_Low_calls a2 8  t3 ht4 hI))) ?_
  rintro _ _ _ ⟨rfl, rfl, rfl⟩
  refine WL.restQ 5 [0, 1, 2] (L' := [(0, .slice Al0 l0.length cl0), (1, .int .i64 (IntKind.i64.wrap (1 + t1))), (2, .int .i64 (IntKind.i64.wrap (1 + t3)))]) (by kernel_rfl) ?_
  refine WP.seqR ?_
  refine WL.pure 0 2 [1, 2, 16, 17] (L' := [(1, .int .i64 (IntKind.i64.wrap (1 + t1))), (2, .int .i64 (IntKind.i64.wrap (1 + t3))), (16, .slice Al0 l0.length cl0), (17, .int .i64 (IntKind.i64.wrap (1 + t1)))]) (by kernel_rfl) (by decide) ?_
  rw [Option.bind_eq_some_iff] at h
  obtain ⟨t5, ht6, h⟩ := h
  refine WL.op (op := .call { callee := (.value (.func 32)), args := #[(.tmp 16), (.tmp 17)], argTypes := #[52, 3] }) (ty := 52) (d := some 18) (g := none) (by kernel_rfl) (by kernel_rfl) (by kernel_rfl) (Does.call (f := 32) (args := [.slice Al0 l0.length cl0, .int .i64 (IntKind.i64.wrap (1 + t1))]) (by kernel_rfl) (fun W hI => (grapevinelaw3_low_calls k l0 (IntKind.i64.wrap (1 + t1)) Al0 cl0 Hl0 t5 ht6 hI))) ?_
  rintro _ _ _ ⟨AR7, cR7, CR7, rfl, HR7, rfl, rfl⟩
  refine WL.pure 3 4 [1, 2, 18, 19] (L' := [(1, .int .i64 (IntKind.i64.wrap (1 + t1))), (2, .int .i64 (IntKind.i64.wrap (1 + t3))), (18, .slice AR7 t5.length cR7), (19, .int .i64 (IntKind.i64.wrap (1 + t1)))]) (by kernel_rfl) (by decide) ?_
  rw [Option.bind_eq_some_iff] at h
  obtain ⟨t8, ht9, h⟩ := h
  refine WL.op (op := .call { callee := (.value (.func 41)), args := #[(.tmp 19)], argTypes := #[3] }) (ty := 52) (d := some 20) (g := none) (by kernel_rfl) (by kernel_rfl) (by kernel_rfl) (Does.call (f := 41) (args := [.int .i64 (IntKind.i64.wrap (1 + t1))]) (by kernel_rfl) (fun W hI => (vector_Zero_calls (IntKind.i64.wrap (1 + t1))  t8 ht9 hI))) ?_
  rintro _ _ _ ⟨AR10, cR10, CR10, rfl, HR10, rfl, rfl⟩
  refine WL.restQ 5 [1, 2, 7, 8] (L' := [(1, .int .i64 (IntKind.i64.wrap (1 + t1))), (2, .int .i64 (IntKind.i64.wrap (1 + t3))), (7, .slice AR7 t5.length cR7), (8, .slice AR10 t8.length cR10)]) (by kernel_rfl) ?_
  refine WP.seq ?_
  rw [Option.bind_eq_some_iff] at h
  obtain ⟨os11, h, hk12⟩ := h
  refine WP.cut (fun L' G' Γ' => ∃ s11 : Bool, s11 = os11 ∧ L' = [(1, .int .i64 (IntKind.i64.wrap (1 + t1))), (2, .int .i64 (IntKind.i64.wrap (1 + t3))), (7, .slice AR7 t5.length cR7), (8, .slice AR10 t8.length cR10), (57, .bool s11)] ∧ G = G' ∧ CR10 :: CR7 :: Γ = Γ') ?_ ?_
  · clear hk12
    refine WP.region ?_
    refine WL.pure 0 2 [1, 2, 7, 8, 21, 22] (L' := [(1, .int .i64 (IntKind.i64.wrap (1 + t1))), (2, .int .i64 (IntKind.i64.wrap (1 + t3))), (7, .slice AR7 t5.length cR7), (8, .slice AR10 t8.length cR10), (21, .slice AR7 t5.length cR7), (22, .slice AR10 t8.length cR10)]) (by kernel_rfl) (by decide) ?_
    refine WL.op (op := .buildSlice 84 2 #[(0, (.tmp 21)), (1, (.tmp 22))]) (ty := 84) (d := some 23) (g := none) (by kernel_rfl) (by kernel_rfl) (by kernel_rfl) (Does.new (o := .cells #[.slice AR7 t5.length cR7, .slice AR10 t8.length cR10] 52 (0, 0)) (v := fun r => .slice (some ⟨r, 0, none⟩) 2 2) (fun r => by kernel_rfl)) ?_
    rintro _ _ _ ⟨b13, rfl, rfl, rfl⟩
    rw [Option.bind_eq_some_iff] at h
    obtain ⟨t16, ht17, h⟩ := h
    refine WL.op (op := .call { callee := (.value (.func 33)), args := #[(.tmp 23)], argTypes := #[84] }) (ty := 52) (d := some 24) (g := none) (by kernel_rfl) (by kernel_rfl) (by kernel_rfl) (Does.call (Φ := fun v' G' Γ' => ∃ (AR18 : Option Addr), ∃ (cR18 : Nat), ∃ (CR18 : Chunk), v' = .slice AR18 t16.length cR18 ∧ Ow (kInt .i64) G AR18 cR18 t16 CR18 ∧ G = G' ∧ CR18 :: [(b13, .cells #[.slice AR7 t5.length cR7, .slice AR10 t8.length cR10] 52 (0, 0))] :: CR10 :: CR7 :: Γ = Γ') (f := 33) (args := [.slice (some ⟨b13, 0, none⟩) ([t5, t8] : List (List Int)).length 2]) (by kernel_rfl) (fun W hI => (Calls.lendR (Φ := fun v' N => ∃ (AR18 : Option Addr), ∃ (cR18 : Nat), ∃ (CR18 : Chunk), v' = .slice AR18 t16.length cR18 ∧ Ow (kInt .i64) G AR18 cR18 t16 CR18 ∧ N = [CR18]) (i := 2) rfl (Ow.nodup HR7) hI (fun _ e l19 hI => by subst e; exact Calls.lendR (Φ := fun v' N => ∃ (AR18 : Option Addr), ∃ (cR18 : Nat), ∃ (CR18 : Chunk), v' = .slice AR18 t16.length cR18 ∧ Ow (kInt .i64) G AR18 cR18 t16 CR18 ∧ N = [CR18]) (i := 1) rfl (Ow.nodup (HR10.mono l19)) hI (fun _ e l20 hI => by subst e; exact Calls.lendR (Φ := fun v' N => ∃ (AR18 : Option Addr), ∃ (cR18 : Nat), ∃ (CR18 : Chunk), v' = .slice AR18 t16.length cR18 ∧ Ow (kInt .i64) G AR18 cR18 t16 CR18 ∧ N = [CR18]) (i := 0) rfl (by simp) hI (fun _ e l21 hI => by subst e; exact ((vector_Join_calls k ([t5, t8] : List (List Int)) (some ⟨b13, 0, none⟩) 2 ((Ow.lit (kd := (kSlice (kInt .i64))) (b := b13) (T := 52) (xs := ([t5, t8] : List (List Int))) (cs := [.slice AR7 t5.length cR7, .slice AR10 t8.length cR10]) (.cons (x := t5) (cs := [.slice AR7 t5.length cR7]) ⟨AR7, cR7, rfl, ((HR7.rd l19).mono l20)⟩ (.cons (x := t8) (cs := [.slice AR10 t8.length cR10]) ⟨AR10, cR10, rfl, ((HR10.mono l19).rd l20)⟩ .nil))).rd l21) t16 ht17 hI).mono fun _ _ hr => by obtain ⟨_, _, _, rfl, ⟨AR18, cR18, CR18, rfl, HR18, rfl, rfl⟩, hI⟩ := hr; exact ⟨_, _, _, rfl, ⟨[CR18], ⟨AR18, cR18, CR18, rfl, (HR18.flat (kInt_flat _)), rfl⟩, rfl, rfl⟩, hI⟩))))).mono fun _ _ hr => by obtain ⟨_, _, _, rfl, ⟨_, ⟨AR18, cR18, CR18, rfl, HR18, rfl⟩, rfl, rfl⟩, hI⟩ := hr; exact ⟨_, _, _, rfl, ⟨AR18, cR18, CR18, rfl, HR18, rfl, rfl⟩, hI⟩)) ?_
    rintro _ _ _ ⟨AR18, cR18, CR18, rfl, HR18, rfl, rfl⟩
    refine WL.pure 4 5 [1, 2, 7, 8, 24, 25] (L' := [(1, .int .i64 (IntKind.i64.wrap (1 + t1))), (2, .int .i64 (IntKind.i64.wrap (1 + t3))), (7, .slice AR7 t5.length cR7), (8, .slice AR10 t8.length cR10), (24, .slice AR18 t16.length cR18), (25, .slice AR7 t5.length cR7)]) (by kernel_rfl) (by decide) ?_
    rw [Option.bind_eq_some_iff] at h
    obtain ⟨t22, ht23, h⟩ := h
    refine WL.op (op := .call { callee := (.value (.func 35)), args := #[(.tmp 24), (.tmp 25)], argTypes := #[52, 52] }) (ty := 4) (d := some 26) (g := none) (by kernel_rfl) (by kernel_rfl) (by kernel_rfl) (Does.call (Φ := fun v' G' Γ' => v' = .bool t22 ∧ G = G' ∧ CR18 :: [(b13, .cells #[.slice AR7 t5.length cR7, .slice AR10 t8.length cR10] 52 (0, 0))] :: CR10 :: CR7 :: Γ = Γ') (f := 35) (args := [.slice AR18 t16.length cR18, .slice AR7 t5.length cR7]) (by kernel_rfl) (fun W hI => Calls.lend (i := 0) rfl (Ow.nodup HR18) hI (fun _ e l24 hI => by subst e; exact Calls.lend (i := 3) rfl (Ow.nodup (HR7.mono l24)) hI (fun _ e l25 hI => by subst e; exact (grapevinelaw0_SameInts_calls k t16 t5 AR18 cR18 ((HR18.rd l24).mono l25) AR7 cR7 ((HR7.mono l24).rd l25) t22 ht23 hI))))) ?_
    rintro _ _ _ ⟨rfl, rfl, rfl⟩
    refine WL.pure 6 8 [1, 2, 7, 8, 28] (L' := [(1, .int .i64 (IntKind.i64.wrap (1 + t1))), (2, .int .i64 (IntKind.i64.wrap (1 + t3))), (7, .slice AR7 t5.length cR7), (8, .slice AR10 t8.length cR10), (28, .bool (!t22))]) (by kernel_rfl) (by decide) ?_
    refine WL.split 28 (b := (!t22)) (by kernel_rfl) (fun hc => ?_) (fun hc => ?_)
    · replace hc := hc
      rw [if_pos hc] at h
      have hc26 := hc
      clear hc
      refine WL.rest 8 [1, 2, 7, 8, 57] (L' := [(1, .int .i64 (IntKind.i64.wrap (1 + t1))), (2, .int .i64 (IntKind.i64.wrap (1 + t3))), (7, .slice AR7 t5.length cR7), (8, .slice AR10 t8.length cR10), (57, .bool true)]) (by kernel_rfl) ?_
      refine QP.dropAt 1 ?_
      refine QP.dropAt 0 ?_
      refine QP.pick [1, 2, 7, 8, 57] ?_
      exact QP.meet ⟨_, Option.some.inj h, rfl, rfl, rfl⟩
    · replace hc := (Bool.eq_false_iff.1 hc)
      rw [if_neg hc] at h
      have hc26 := hc
      clear hc
      refine WL.pure 8 10 [1, 2, 7, 8, 28, 29, 30] (L' := [(1, .int .i64 (IntKind.i64.wrap (1 + t1))), (2, .int .i64 (IntKind.i64.wrap (1 + t3))), (7, .slice AR7 t5.length cR7), (8, .slice AR10 t8.length cR10), (28, .bool false), (29, .slice AR7 t5.length cR7), (30, .slice AR10 t8.length cR10)]) (by kernel_rfl) (by decide) ?_
      refine WL.op (op := .buildSlice 84 2 #[(0, (.tmp 29)), (1, (.tmp 30))]) (ty := 84) (d := some 31) (g := some (7, false)) (by kernel_rfl) (by kernel_rfl) (by kernel_rfl) (Does.new (o := .cells #[.slice AR7 t5.length cR7, .slice AR10 t8.length cR10] 52 (0, 0)) (v := fun r => .slice (some ⟨r, 0, none⟩) 2 2) (fun r => by kernel_rfl)) ?_
      rintro _ _ _ ⟨b27, rfl, rfl, rfl⟩
      rw [Option.bind_eq_some_iff] at h
      obtain ⟨t30, ht31, h⟩ := h
      refine WL.op (op := .call { callee := (.value (.func 34)), args := #[(.tmp 31)], argTypes := #[84] }) (ty := 52) (d := some 32) (g := some (7, false)) (by kernel_rfl) (by kernel_rfl) (by kernel_rfl) (Does.call (Φ := fun v' G' Γ' => ∃ (AR32 : Option Addr), ∃ (cR32 : Nat), ∃ (CR32 : Chunk), v' = .slice AR32 t30.length cR32 ∧ Ow (kInt .i64) G AR32 cR32 t30 CR32 ∧ G = G' ∧ CR32 :: [(b27, .cells #[.slice AR7 t5.length cR7, .slice AR10 t8.length cR10] 52 (0, 0))] :: CR18 :: [(b13, .cells #[.slice AR7 t5.length cR7, .slice AR10 t8.length cR10] 52 (0, 0))] :: CR10 :: CR7 :: Γ = Γ') (f := 34) (args := [.slice (some ⟨b27, 0, none⟩) ([t5, t8] : List (List Int)).length 2]) (by kernel_rfl) (fun W hI => (Calls.lendR (Φ := fun v' N => ∃ (AR32 : Option Addr), ∃ (cR32 : Nat), ∃ (CR32 : Chunk), v' = .slice AR32 t30.length cR32 ∧ Ow (kInt .i64) G AR32 cR32 t30 CR32 ∧ N = [CR32]) (i := 4) rfl (Ow.nodup HR7) hI (fun _ e l33 hI => by subst e; exact Calls.lendR (Φ := fun v' N => ∃ (AR32 : Option Addr), ∃ (cR32 : Nat), ∃ (CR32 : Chunk), v' = .slice AR32 t30.length cR32 ∧ Ow (kInt .i64) G AR32 cR32 t30 CR32 ∧ N = [CR32]) (i := 3) rfl (Ow.nodup (HR10.mono l33)) hI (fun _ e l34 hI => by subst e; exact Calls.lendR (Φ := fun v' N => ∃ (AR32 : Option Addr), ∃ (cR32 : Nat), ∃ (CR32 : Chunk), v' = .slice AR32 t30.length cR32 ∧ Ow (kInt .i64) G AR32 cR32 t30 CR32 ∧ N = [CR32]) (i := 0) rfl (by simp) hI (fun _ e l35 hI => by subst e; exact ((vector_Meet_calls k ([t5, t8] : List (List Int)) (some ⟨b27, 0, none⟩) 2 ((Ow.lit (kd := (kSlice (kInt .i64))) (b := b27) (T := 52) (xs := ([t5, t8] : List (List Int))) (cs := [.slice AR7 t5.length cR7, .slice AR10 t8.length cR10]) (.cons (x := t5) (cs := [.slice AR7 t5.length cR7]) ⟨AR7, cR7, rfl, ((HR7.rd l33).mono l34)⟩ (.cons (x := t8) (cs := [.slice AR10 t8.length cR10]) ⟨AR10, cR10, rfl, ((HR10.mono l33).rd l34)⟩ .nil))).rd l35) t30 ht31 hI).mono fun _ _ hr => by obtain ⟨_, _, _, rfl, ⟨AR32, cR32, CR32, rfl, HR32, rfl, rfl⟩, hI⟩ := hr; exact ⟨_, _, _, rfl, ⟨[CR32], ⟨AR32, cR32, CR32, rfl, (HR32.flat (kInt_flat _)), rfl⟩, rfl, rfl⟩, hI⟩))))).mono fun _ _ hr => by obtain ⟨_, _, _, rfl, ⟨_, ⟨AR32, cR32, CR32, rfl, HR32, rfl⟩, rfl, rfl⟩, hI⟩ := hr; exact ⟨_, _, _, rfl, ⟨AR32, cR32, CR32, rfl, HR32, rfl, rfl⟩, hI⟩)) ?_
      rintro _ _ _ ⟨AR32, cR32, CR32, rfl, HR32, rfl, rfl⟩
      refine WL.pure 12 13 [1, 2, 7, 8, 28, 32, 33] (L' := [(1, .int .i64 (IntKind.i64.wrap (1 + t1))), (2, .int .i64 (IntKind.i64.wrap (1 + t3))), (7, .slice AR7 t5.length cR7), (8, .slice AR10 t8.length cR10), (28, .bool false), (32, .slice AR32 t30.length cR32), (33, .slice AR10 t8.length cR10)]) (by kernel_rfl) (by decide) ?_
      rw [Option.bind_eq_some_iff] at h
      obtain ⟨t36, ht37, h⟩ := h
      refine WL.op (op := .call { callee := (.value (.func 35)), args := #[(.tmp 32), (.tmp 33)], argTypes := #[52, 52] }) (ty := 4) (d := some 34) (g := some (7, false)) (by kernel_rfl) (by kernel_rfl) (by kernel_rfl) (Does.call (Φ := fun v' G' Γ' => v' = .bool t36 ∧ G = G' ∧ CR32 :: [(b27, .cells #[.slice AR7 t5.length cR7, .slice AR10 t8.length cR10] 52 (0, 0))] :: CR18 :: [(b13, .cells #[.slice AR7 t5.length cR7, .slice AR10 t8.length cR10] 52 (0, 0))] :: CR10 :: CR7 :: Γ = Γ') (f := 35) (args := [.slice AR32 t30.length cR32, .slice AR10 t8.length cR10]) (by kernel_rfl) (fun W hI => Calls.lend (i := 0) rfl (Ow.nodup HR32) hI (fun _ e l38 hI => by subst e; exact Calls.lend (i := 4) rfl (Ow.nodup (HR10.mono l38)) hI (fun _ e l39 hI => by subst e; exact (grapevinelaw0_SameInts_calls k t30 t8 AR32 cR32 ((HR32.rd l38).mono l39) AR10 cR10 ((HR10.mono l38).rd l39) t36 ht37 hI))))) ?_
      rintro _ _ _ ⟨rfl, rfl, rfl⟩
      refine WL.pure 14 17 [1, 2, 7, 8, 37] (L' := [(1, .int .i64 (IntKind.i64.wrap (1 + t1))), (2, .int .i64 (IntKind.i64.wrap (1 + t3))), (7, .slice AR7 t5.length cR7), (8, .slice AR10 t8.length cR10), (37, .bool (!t36))]) (by kernel_rfl) (by decide) ?_
      refine WL.split 37 (b := (!t36)) (by kernel_rfl) (fun hc => ?_) (fun hc => ?_)
      · replace hc := hc
        rw [if_pos hc] at h
        have hc40 := hc
        clear hc
        refine WL.rest 17 [1, 2, 7, 8, 57] (L' := [(1, .int .i64 (IntKind.i64.wrap (1 + t1))), (2, .int .i64 (IntKind.i64.wrap (1 + t3))), (7, .slice AR7 t5.length cR7), (8, .slice AR10 t8.length cR10), (57, .bool true)]) (by kernel_rfl) ?_
        refine QP.dropAt 3 ?_
        refine QP.dropAt 2 ?_
        refine QP.dropAt 1 ?_
        refine QP.dropAt 0 ?_
        refine QP.pick [1, 2, 7, 8, 57] ?_
        exact QP.meet ⟨_, Option.some.inj h, rfl, rfl, rfl⟩
      · replace hc := (Bool.eq_false_iff.1 hc)
        rw [if_neg hc] at h
        have hc40 := hc
        clear hc
        refine WL.pure 17 20 [1, 2, 7, 8, 37, 38, 39, 40] (L' := [(1, .int .i64 (IntKind.i64.wrap (1 + t1))), (2, .int .i64 (IntKind.i64.wrap (1 + t3))), (7, .slice AR7 t5.length cR7), (8, .slice AR10 t8.length cR10), (37, .bool false), (38, .slice AR7 t5.length cR7), (39, .slice AR7 t5.length cR7), (40, .slice AR7 t5.length cR7)]) (by kernel_rfl) (by decide) ?_
        refine WL.op (op := .buildSlice 84 3 #[(0, (.tmp 38)), (1, (.tmp 39)), (2, (.tmp 40))]) (ty := 84) (d := some 41) (g := some (16, false)) (by kernel_rfl) (by kernel_rfl) (by kernel_rfl) (Does.new (o := .cells #[.slice AR7 t5.length cR7, .slice AR7 t5.length cR7, .slice AR7 t5.length cR7] 52 (0, 0)) (v := fun r => .slice (some ⟨r, 0, none⟩) 3 3) (fun r => by kernel_rfl)) ?_
        rintro _ _ _ ⟨b41, rfl, rfl, rfl⟩
        rw [Option.bind_eq_some_iff] at h
        obtain ⟨t44, ht45, h⟩ := h
        refine WL.op (op := .call { callee := (.value (.func 33)), args := #[(.tmp 41)], argTypes := #[84] }) (ty := 52) (d := some 42) (g := some (16, false)) (by kernel_rfl) (by kernel_rfl) (by kernel_rfl) (Does.call (Φ := fun v' G' Γ' => ∃ (AR46 : Option Addr), ∃ (cR46 : Nat), ∃ (CR46 : Chunk), v' = .slice AR46 t44.length cR46 ∧ Ow (kInt .i64) G AR46 cR46 t44 CR46 ∧ G = G' ∧ CR46 :: [(b41, .cells #[.slice AR7 t5.length cR7, .slice AR7 t5.length cR7, .slice AR7 t5.length cR7] 52 (0, 0))] :: CR32 :: [(b27, .cells #[.slice AR7 t5.length cR7, .slice AR10 t8.length cR10] 52 (0, 0))] :: CR18 :: [(b13, .cells #[.slice AR7 t5.length cR7, .slice AR10 t8.length cR10] 52 (0, 0))] :: CR10 :: CR7 :: Γ = Γ') (f := 33) (args := [.slice (some ⟨b41, 0, none⟩) ([t5, t5, t5] : List (List Int)).length 3]) (by kernel_rfl) (fun W hI => (Calls.lendR (Φ := fun v' N => ∃ (AR46 : Option Addr), ∃ (cR46 : Nat), ∃ (CR46 : Chunk), v' = .slice AR46 t44.length cR46 ∧ Ow (kInt .i64) G AR46 cR46 t44 CR46 ∧ N = [CR46]) (i := 6) rfl (Ow.nodup HR7) hI (fun _ e l47 hI => by subst e; exact Calls.lendR (Φ := fun v' N => ∃ (AR46 : Option Addr), ∃ (cR46 : Nat), ∃ (CR46 : Chunk), v' = .slice AR46 t44.length cR46 ∧ Ow (kInt .i64) G AR46 cR46 t44 CR46 ∧ N = [CR46]) (i := 0) rfl (by simp) hI (fun _ e l48 hI => by subst e; exact ((vector_Join_calls k ([t5, t5, t5] : List (List Int)) (some ⟨b41, 0, none⟩) 3 ((Ow.lit (kd := (kSlice (kInt .i64))) (b := b41) (T := 52) (xs := ([t5, t5, t5] : List (List Int))) (cs := [.slice AR7 t5.length cR7, .slice AR7 t5.length cR7, .slice AR7 t5.length cR7]) (.cons (x := t5) (cs := [.slice AR7 t5.length cR7]) ⟨AR7, cR7, rfl, (HR7.rd l47)⟩ (.cons (x := t5) (cs := [.slice AR7 t5.length cR7]) ⟨AR7, cR7, rfl, (HR7.rd l47)⟩ (.cons (x := t5) (cs := [.slice AR7 t5.length cR7]) ⟨AR7, cR7, rfl, (HR7.rd l47)⟩ .nil)))).rd l48) t44 ht45 hI).mono fun _ _ hr => by obtain ⟨_, _, _, rfl, ⟨AR46, cR46, CR46, rfl, HR46, rfl, rfl⟩, hI⟩ := hr; exact ⟨_, _, _, rfl, ⟨[CR46], ⟨AR46, cR46, CR46, rfl, (HR46.flat (kInt_flat _)), rfl⟩, rfl, rfl⟩, hI⟩)))).mono fun _ _ hr => by obtain ⟨_, _, _, rfl, ⟨_, ⟨AR46, cR46, CR46, rfl, HR46, rfl⟩, rfl, rfl⟩, hI⟩ := hr; exact ⟨_, _, _, rfl, ⟨AR46, cR46, CR46, rfl, HR46, rfl, rfl⟩, hI⟩)) ?_
        rintro _ _ _ ⟨AR46, cR46, CR46, rfl, HR46, rfl, rfl⟩
        refine WL.pure 22 23 [1, 2, 7, 8, 37, 42, 43] (L' := [(1, .int .i64 (IntKind.i64.wrap (1 + t1))), (2, .int .i64 (IntKind.i64.wrap (1 + t3))), (7, .slice AR7 t5.length cR7), (8, .slice AR10 t8.length cR10), (37, .bool false), (42, .slice AR46 t44.length cR46), (43, .slice AR7 t5.length cR7)]) (by kernel_rfl) (by decide) ?_
        rw [Option.bind_eq_some_iff] at h
        obtain ⟨t49, ht50, h⟩ := h
        refine WL.op (op := .call { callee := (.value (.func 35)), args := #[(.tmp 42), (.tmp 43)], argTypes := #[52, 52] }) (ty := 4) (d := some 44) (g := some (16, false)) (by kernel_rfl) (by kernel_rfl) (by kernel_rfl) (Does.call (Φ := fun v' G' Γ' => v' = .bool t49 ∧ G = G' ∧ CR46 :: [(b41, .cells #[.slice AR7 t5.length cR7, .slice AR7 t5.length cR7, .slice AR7 t5.length cR7] 52 (0, 0))] :: CR32 :: [(b27, .cells #[.slice AR7 t5.length cR7, .slice AR10 t8.length cR10] 52 (0, 0))] :: CR18 :: [(b13, .cells #[.slice AR7 t5.length cR7, .slice AR10 t8.length cR10] 52 (0, 0))] :: CR10 :: CR7 :: Γ = Γ') (f := 35) (args := [.slice AR46 t44.length cR46, .slice AR7 t5.length cR7]) (by kernel_rfl) (fun W hI => Calls.lend (i := 0) rfl (Ow.nodup HR46) hI (fun _ e l51 hI => by subst e; exact Calls.lend (i := 7) rfl (Ow.nodup (HR7.mono l51)) hI (fun _ e l52 hI => by subst e; exact (grapevinelaw0_SameInts_calls k t44 t5 AR46 cR46 ((HR46.rd l51).mono l52) AR7 cR7 ((HR7.mono l51).rd l52) t49 ht50 hI))))) ?_
        rintro _ _ _ ⟨rfl, rfl, rfl⟩
        refine WL.pure 24 27 [1, 2, 7, 8, 47] (L' := [(1, .int .i64 (IntKind.i64.wrap (1 + t1))), (2, .int .i64 (IntKind.i64.wrap (1 + t3))), (7, .slice AR7 t5.length cR7), (8, .slice AR10 t8.length cR10), (47, .bool (!t49))]) (by kernel_rfl) (by decide) ?_
        refine WL.split 47 (b := (!t49)) (by kernel_rfl) (fun hc => ?_) (fun hc => ?_)
        · replace hc := hc
          rw [if_pos hc] at h
          have hc53 := hc
          clear hc
          refine WL.rest 27 [1, 2, 7, 8, 57] (L' := [(1, .int .i64 (IntKind.i64.wrap (1 + t1))), (2, .int .i64 (IntKind.i64.wrap (1 + t3))), (7, .slice AR7 t5.length cR7), (8, .slice AR10 t8.length cR10), (57, .bool true)]) (by kernel_rfl) ?_
          refine QP.dropAt 5 ?_
          refine QP.dropAt 4 ?_
          refine QP.dropAt 3 ?_
          refine QP.dropAt 2 ?_
          refine QP.dropAt 1 ?_
          refine QP.dropAt 0 ?_
          refine QP.pick [1, 2, 7, 8, 57] ?_
          exact QP.meet ⟨_, Option.some.inj h, rfl, rfl, rfl⟩
        · replace hc := (Bool.eq_false_iff.1 hc)
          rw [if_neg hc] at h
          have hc53 := hc
          clear hc
          refine WL.pure 27 29 [1, 2, 7, 8, 47, 48, 49] (L' := [(1, .int .i64 (IntKind.i64.wrap (1 + t1))), (2, .int .i64 (IntKind.i64.wrap (1 + t3))), (7, .slice AR7 t5.length cR7), (8, .slice AR10 t8.length cR10), (47, .bool false), (48, .slice AR10 t8.length cR10), (49, .slice AR7 t5.length cR7)]) (by kernel_rfl) (by decide) ?_
          rw [Option.bind_eq_some_iff] at h
          obtain ⟨t54, ht55, h⟩ := h
          refine WL.op (op := .call { callee := (.value (.func 36)), args := #[(.tmp 48), (.tmp 49)], argTypes := #[52, 52] }) (ty := 4) (d := some 50) (g := some (26, false)) (by kernel_rfl) (by kernel_rfl) (by kernel_rfl) (Does.call (Φ := fun v' G' Γ' => v' = .bool t54 ∧ G = G' ∧ CR46 :: [(b41, .cells #[.slice AR7 t5.length cR7, .slice AR7 t5.length cR7, .slice AR7 t5.length cR7] 52 (0, 0))] :: CR32 :: [(b27, .cells #[.slice AR7 t5.length cR7, .slice AR10 t8.length cR10] 52 (0, 0))] :: CR18 :: [(b13, .cells #[.slice AR7 t5.length cR7, .slice AR10 t8.length cR10] 52 (0, 0))] :: CR10 :: CR7 :: Γ = Γ') (f := 36) (args := [.slice AR10 t8.length cR10, .slice AR7 t5.length cR7]) (by kernel_rfl) (fun W hI => Calls.lend (i := 6) rfl (Ow.nodup HR10) hI (fun _ e l56 hI => by subst e; exact Calls.lend (i := 7) rfl (Ow.nodup (HR7.mono l56)) hI (fun _ e l57 hI => by subst e; exact (vector_Below_calls k t8 t5 AR10 cR10 ((HR10.rd l56).mono l57) AR7 cR7 ((HR7.mono l56).rd l57) t54 ht55 hI))))) ?_
          rintro _ _ _ ⟨rfl, rfl, rfl⟩
          refine WL.pure 30 33 [1, 2, 7, 8, 53] (L' := [(1, .int .i64 (IntKind.i64.wrap (1 + t1))), (2, .int .i64 (IntKind.i64.wrap (1 + t3))), (7, .slice AR7 t5.length cR7), (8, .slice AR10 t8.length cR10), (53, .bool (!t54))]) (by kernel_rfl) (by decide) ?_
          refine WL.split 53 (b := (!t54)) (by kernel_rfl) (fun hc => ?_) (fun hc => ?_)
          · replace hc := hc
            rw [if_pos hc] at h
            have hc58 := hc
            clear hc
            refine WL.rest 33 [1, 2, 7, 8, 57] (L' := [(1, .int .i64 (IntKind.i64.wrap (1 + t1))), (2, .int .i64 (IntKind.i64.wrap (1 + t3))), (7, .slice AR7 t5.length cR7), (8, .slice AR10 t8.length cR10), (57, .bool true)]) (by kernel_rfl) ?_
            refine QP.dropAt 5 ?_
            refine QP.dropAt 4 ?_
            refine QP.dropAt 3 ?_
            refine QP.dropAt 2 ?_
            refine QP.dropAt 1 ?_
            refine QP.dropAt 0 ?_
            refine QP.pick [1, 2, 7, 8, 57] ?_
            exact QP.meet ⟨_, Option.some.inj h, rfl, rfl, rfl⟩
          · replace hc := (Bool.eq_false_iff.1 hc)
            rw [if_neg hc] at h
            have hc58 := hc
            clear hc
            refine WL.pure 33 34 [1, 2, 7, 8, 53, 54] (L' := [(1, .int .i64 (IntKind.i64.wrap (1 + t1))), (2, .int .i64 (IntKind.i64.wrap (1 + t3))), (7, .slice AR7 t5.length cR7), (8, .slice AR10 t8.length cR10), (53, .bool false), (54, .slice AR10 t8.length cR10)]) (by kernel_rfl) (by decide) ?_
            rw [Option.bind_eq_some_iff] at h
            obtain ⟨t59, ht60, h⟩ := h
            refine WL.op (op := .call { callee := (.value (.func 38)), args := #[(.tmp 54)], argTypes := #[52] }) (ty := 3) (d := some 55) (g := some (32, false)) (by kernel_rfl) (by kernel_rfl) (by kernel_rfl) (Does.call (Φ := fun v' G' Γ' => v' = .int .i64 t59 ∧ G = G' ∧ CR46 :: [(b41, .cells #[.slice AR7 t5.length cR7, .slice AR7 t5.length cR7, .slice AR7 t5.length cR7] 52 (0, 0))] :: CR32 :: [(b27, .cells #[.slice AR7 t5.length cR7, .slice AR10 t8.length cR10] 52 (0, 0))] :: CR18 :: [(b13, .cells #[.slice AR7 t5.length cR7, .slice AR10 t8.length cR10] 52 (0, 0))] :: CR10 :: CR7 :: Γ = Γ') (f := 38) (args := [.slice AR10 t8.length cR10]) (by kernel_rfl) (fun W hI => Calls.lend (i := 6) rfl (Ow.nodup HR10) hI (fun _ e l61 hI => by subst e; exact (vector_Sum_calls k t8 AR10 cR10 (HR10.rd l61) t59 ht60 hI)))) ?_
            rintro _ _ _ ⟨rfl, rfl, rfl⟩
            refine WL.rest 35 [1, 2, 7, 8, 57] (L' := [(1, .int .i64 (IntKind.i64.wrap (1 + t1))), (2, .int .i64 (IntKind.i64.wrap (1 + t3))), (7, .slice AR7 t5.length cR7), (8, .slice AR10 t8.length cR10), (57, .bool (t59 != 0))]) (by kernel_rfl) ?_
            refine QP.dropAt 5 ?_
            refine QP.dropAt 4 ?_
            refine QP.dropAt 3 ?_
            refine QP.dropAt 2 ?_
            refine QP.dropAt 1 ?_
            refine QP.dropAt 0 ?_
            refine QP.pick [1, 2, 7, 8, 57] ?_
            exact QP.meet ⟨_, Option.some.inj h, rfl, rfl, rfl⟩
  · rintro _ _ _ ⟨s11, rfl, rfl, rfl, rfl⟩
    clear h
    replace h := hk12
    refine WP.cond (b := s11) (by kernel_rfl) (fun hc => ?_) (fun hc => ?_)
    · replace hc := hc
      rw [if_pos hc] at h
      have hc62 := hc
      clear hc
      refine WP.seqP [6] (L' := [(6, .bool false)]) (by kernel_rfl) ?_
      refine WP.dropAt 1 ?_
      refine WP.dropAt 0 ?_
      refine WP.ret ?_
      refine QP.thenR ?_
      obtain rfl := Option.some.inj h
      exact QP.returned [6] [.bool false] _ (by kernel_rfl) (by kernel_rfl) (by kernel_rfl) (fun W hI => ⟨_, _, _, rfl, ⟨rfl, rfl, rfl⟩, hI⟩)
    · replace hc := (Bool.eq_false_iff.1 hc)
      rw [if_neg hc] at h
      have hc62 := hc
      clear hc
      refine WP.skip ?_
      refine QP.next ?_
      refine WP.pick [1, 2, 7, 8] ?_
      refine WP.seqR ?_
      refine WL.pure 0 1 [1, 2, 7, 8, 58] (L' := [(1, .int .i64 (IntKind.i64.wrap (1 + t1))), (2, .int .i64 (IntKind.i64.wrap (1 + t3))), (7, .slice AR7 t5.length cR7), (8, .slice AR10 t8.length cR10), (58, .int .i64 (IntKind.i64.wrap (1 + t3)))]) (by kernel_rfl) (by decide) ?_
      rw [Option.bind_eq_some_iff] at h
      obtain ⟨t63, ht64, h⟩ := h
      refine WL.op (op := .call { callee := (.value (.func 41)), args := #[(.tmp 58)], argTypes := #[3] }) (ty := 52) (d := some 59) (g := none) (by kernel_rfl) (by kernel_rfl) (by kernel_rfl) (Does.call (f := 41) (args := [.int .i64 (IntKind.i64.wrap (1 + t3))]) (by kernel_rfl) (fun W hI => (vector_Zero_calls (IntKind.i64.wrap (1 + t3))  t63 ht64 hI))) ?_
      rintro _ _ _ ⟨AR65, cR65, CR65, rfl, HR65, rfl, rfl⟩
      refine WL.restQ 2 [1, 2, 7, 8, 9] (L' := [(1, .int .i64 (IntKind.i64.wrap (1 + t1))), (2, .int .i64 (IntKind.i64.wrap (1 + t3))), (7, .slice AR7 t5.length cR7), (8, .slice AR10 t8.length cR10), (9, .slice AR65 t63.length cR65)]) (by kernel_rfl) ?_
      rw [Option.bind_eq_some_iff] at h
      obtain ⟨os66, h, hk67⟩ := h
      refine WP.cut (fun L' G' Γ' => ∃ s66 : Bool, s66 = os66 ∧ L' = [(6, .bool s66)] ∧ G = G' ∧ CR65 :: CR10 :: CR7 :: Γ = Γ') ?_ ?_
      · clear hk67
        refine WP.region ?_
        refine WL.pure 0 4 [1, 7, 8, 9, 63] (L' := [(1, .int .i64 (IntKind.i64.wrap (1 + t1))), (7, .slice AR7 t5.length cR7), (8, .slice AR10 t8.length cR10), (9, .slice AR65 t63.length cR65), (63, .bool ((IntKind.i64.wrap (1 + t1)) == (IntKind.i64.wrap (1 + t3))))]) (by kernel_rfl) (by decide) ?_
        refine WL.split 63 (b := ((IntKind.i64.wrap (1 + t1)) == (IntKind.i64.wrap (1 + t3)))) (by kernel_rfl) (fun hc => ?_) (fun hc => ?_)
        · replace hc := eq_of_beq hc
          rw [if_pos hc] at h
          have hc68 := hc
          clear hc
          refine WL.pure 4 36 [93, 94, 95] (L' := [(93, .bool true), (94, .slice AR10 t8.length cR10), (95, .int .i64 (IntKind.i64.wrap (1 + t1)))]) (by kernel_rfl) (by decide) ?_
          rw [Option.bind_eq_some_iff] at h
          obtain ⟨t69, ht70, h⟩ := h
          refine WL.op (op := .call { callee := (.value (.func 37)), args := #[(.tmp 94), (.tmp 95)], argTypes := #[52, 3] }) (ty := 4) (d := some 96) (g := some (33, true)) (by kernel_rfl) (by kernel_rfl) (by kernel_rfl) (Does.call (Φ := fun v' G' Γ' => v' = .bool t69 ∧ G = G' ∧ CR65 :: CR10 :: CR7 :: Γ = Γ') (f := 37) (args := [.slice AR10 t8.length cR10, .int .i64 (IntKind.i64.wrap (1 + t1))]) (by kernel_rfl) (fun W hI => Calls.lend (i := 1) rfl (Ow.nodup HR10) hI (fun _ e l71 hI => by subst e; exact (vector_May_calls k t8 (IntKind.i64.wrap (1 + t1)) AR10 cR10 (HR10.rd l71) t69 ht70 hI)))) ?_
          rintro _ _ _ ⟨rfl, rfl, rfl⟩
          refine WL.pure 37 39 [98] (L' := [(98, .bool t69)]) (by kernel_rfl) (by decide) ?_
          refine WL.split 98 (b := t69) (by kernel_rfl) (fun hc => ?_) (fun hc => ?_)
          · replace hc := hc
            rw [if_pos hc] at h
            have hc72 := hc
            clear hc
            rw [Option.bind_eq_some_iff] at h
            obtain ⟨t73, ht74, h⟩ := h
            refine WL.op (op := .call { callee := (.value (.func 39)), args := #[], argTypes := #[] }) (ty := 4) (d := some 99) (g := some (38, true)) (by kernel_rfl) (by kernel_rfl) (by kernel_rfl) (Does.call (f := 39) (args := []) (by kernel_rfl) (fun W hI => (grapevinelaw3_awake_calls k   t73 ht74 hI))) ?_
            rintro _ _ _ ⟨rfl, rfl, rfl⟩
            refine WL.rest 40 [6] (L' := [(6, .bool t73)]) (by kernel_rfl) ?_
            refine QP.pick [6] ?_
            exact QP.meet ⟨_, Option.some.inj h, rfl, rfl, rfl⟩
          · replace hc := (Bool.eq_false_iff.1 hc)
            rw [if_neg hc] at h
            have hc72 := hc
            clear hc
            refine WL.rest 39 [6] (L' := [(6, .bool false)]) (by kernel_rfl) ?_
            refine QP.pick [6] ?_
            exact QP.meet ⟨_, Option.some.inj h, rfl, rfl, rfl⟩
        · replace hc := ne_of_beq_false hc
          rw [if_neg hc] at h
          have hc68 := hc
          clear hc
          refine WL.pure 4 6 [1, 7, 8, 9, 63, 64, 65] (L' := [(1, .int .i64 (IntKind.i64.wrap (1 + t1))), (7, .slice AR7 t5.length cR7), (8, .slice AR10 t8.length cR10), (9, .slice AR65 t63.length cR65), (63, .bool false), (64, .slice AR7 t5.length cR7), (65, .slice AR65 t63.length cR65)]) (by kernel_rfl) (by decide) ?_
          refine WL.op (op := .buildSlice 84 2 #[(0, (.tmp 64)), (1, (.tmp 65))]) (ty := 84) (d := some 66) (g := some (3, false)) (by kernel_rfl) (by kernel_rfl) (by kernel_rfl) (Does.new (o := .cells #[.slice AR7 t5.length cR7, .slice AR65 t63.length cR65] 52 (0, 0)) (v := fun r => .slice (some ⟨r, 0, none⟩) 2 2) (fun r => by kernel_rfl)) ?_
          rintro _ _ _ ⟨b75, rfl, rfl, rfl⟩
          rw [Option.bind_eq_some_iff] at h
          obtain ⟨t78, ht79, h⟩ := h
          refine WL.op (op := .call { callee := (.value (.func 33)), args := #[(.tmp 66)], argTypes := #[84] }) (ty := 52) (d := some 67) (g := some (3, false)) (by kernel_rfl) (by kernel_rfl) (by kernel_rfl) (Does.call (Φ := fun v' G' Γ' => ∃ (AR80 : Option Addr), ∃ (cR80 : Nat), ∃ (CR80 : Chunk), v' = .slice AR80 t78.length cR80 ∧ Ow (kInt .i64) G AR80 cR80 t78 CR80 ∧ G = G' ∧ CR80 :: [(b75, .cells #[.slice AR7 t5.length cR7, .slice AR65 t63.length cR65] 52 (0, 0))] :: CR65 :: CR10 :: CR7 :: Γ = Γ') (f := 33) (args := [.slice (some ⟨b75, 0, none⟩) ([t5, t63] : List (List Int)).length 2]) (by kernel_rfl) (fun W hI => (Calls.lendR (Φ := fun v' N => ∃ (AR80 : Option Addr), ∃ (cR80 : Nat), ∃ (CR80 : Chunk), v' = .slice AR80 t78.length cR80 ∧ Ow (kInt .i64) G AR80 cR80 t78 CR80 ∧ N = [CR80]) (i := 3) rfl (Ow.nodup HR7) hI (fun _ e l81 hI => by subst e; exact Calls.lendR (Φ := fun v' N => ∃ (AR80 : Option Addr), ∃ (cR80 : Nat), ∃ (CR80 : Chunk), v' = .slice AR80 t78.length cR80 ∧ Ow (kInt .i64) G AR80 cR80 t78 CR80 ∧ N = [CR80]) (i := 1) rfl (Ow.nodup (HR65.mono l81)) hI (fun _ e l82 hI => by subst e; exact Calls.lendR (Φ := fun v' N => ∃ (AR80 : Option Addr), ∃ (cR80 : Nat), ∃ (CR80 : Chunk), v' = .slice AR80 t78.length cR80 ∧ Ow (kInt .i64) G AR80 cR80 t78 CR80 ∧ N = [CR80]) (i := 0) rfl (by simp) hI (fun _ e l83 hI => by subst e; exact ((vector_Join_calls k ([t5, t63] : List (List Int)) (some ⟨b75, 0, none⟩) 2 ((Ow.lit (kd := (kSlice (kInt .i64))) (b := b75) (T := 52) (xs := ([t5, t63] : List (List Int))) (cs := [.slice AR7 t5.length cR7, .slice AR65 t63.length cR65]) (.cons (x := t5) (cs := [.slice AR7 t5.length cR7]) ⟨AR7, cR7, rfl, ((HR7.rd l81).mono l82)⟩ (.cons (x := t63) (cs := [.slice AR65 t63.length cR65]) ⟨AR65, cR65, rfl, ((HR65.mono l81).rd l82)⟩ .nil))).rd l83) t78 ht79 hI).mono fun _ _ hr => by obtain ⟨_, _, _, rfl, ⟨AR80, cR80, CR80, rfl, HR80, rfl, rfl⟩, hI⟩ := hr; exact ⟨_, _, _, rfl, ⟨[CR80], ⟨AR80, cR80, CR80, rfl, (HR80.flat (kInt_flat _)), rfl⟩, rfl, rfl⟩, hI⟩))))).mono fun _ _ hr => by obtain ⟨_, _, _, rfl, ⟨_, ⟨AR80, cR80, CR80, rfl, HR80, rfl⟩, rfl, rfl⟩, hI⟩ := hr; exact ⟨_, _, _, rfl, ⟨AR80, cR80, CR80, rfl, HR80, rfl, rfl⟩, hI⟩)) ?_
          rintro _ _ _ ⟨AR80, cR80, CR80, rfl, HR80, rfl, rfl⟩
          refine WL.pure 8 11 [1, 7, 8, 9, 63, 70] (L' := [(1, .int .i64 (IntKind.i64.wrap (1 + t1))), (7, .slice AR7 t5.length cR7), (8, .slice AR10 t8.length cR10), (9, .slice AR65 t63.length cR65), (63, .bool false), (70, .bool ((t78.length : Int) == 0))]) (by kernel_rfl) (by decide) ?_
          refine WL.split 70 (b := ((t78.length : Int) == 0)) (by kernel_rfl) (fun hc => ?_) (fun hc => ?_)
          · replace hc := eq_of_beq hc
            rw [if_pos hc] at h
            have hc84 := hc
            clear hc
            refine WL.pure 11 13 [1, 7, 8, 9, 63, 70, 71, 72] (L' := [(1, .int .i64 (IntKind.i64.wrap (1 + t1))), (7, .slice AR7 t5.length cR7), (8, .slice AR10 t8.length cR10), (9, .slice AR65 t63.length cR65), (63, .bool false), (70, .bool true), (71, .slice AR7 t5.length cR7), (72, .slice AR65 t63.length cR65)]) (by kernel_rfl) (by decide) ?_
            refine WL.op (op := .buildSlice 84 2 #[(0, (.tmp 71)), (1, (.tmp 72))]) (ty := 84) (d := some 73) (g := some (10, true)) (by kernel_rfl) (by kernel_rfl) (by kernel_rfl) (Does.new (o := .cells #[.slice AR7 t5.length cR7, .slice AR65 t63.length cR65] 52 (0, 0)) (v := fun r => .slice (some ⟨r, 0, none⟩) 2 2) (fun r => by kernel_rfl)) ?_
            rintro _ _ _ ⟨b85, rfl, rfl, rfl⟩
            rw [Option.bind_eq_some_iff] at h
            obtain ⟨t88, ht89, h⟩ := h
            refine WL.op (op := .call { callee := (.value (.func 34)), args := #[(.tmp 73)], argTypes := #[84] }) (ty := 52) (d := some 74) (g := some (10, true)) (by kernel_rfl) (by kernel_rfl) (by kernel_rfl) (Does.call (Φ := fun v' G' Γ' => ∃ (AR90 : Option Addr), ∃ (cR90 : Nat), ∃ (CR90 : Chunk), v' = .slice AR90 t88.length cR90 ∧ Ow (kInt .i64) G AR90 cR90 t88 CR90 ∧ G = G' ∧ CR90 :: [(b85, .cells #[.slice AR7 t5.length cR7, .slice AR65 t63.length cR65] 52 (0, 0))] :: CR80 :: [(b75, .cells #[.slice AR7 t5.length cR7, .slice AR65 t63.length cR65] 52 (0, 0))] :: CR65 :: CR10 :: CR7 :: Γ = Γ') (f := 34) (args := [.slice (some ⟨b85, 0, none⟩) ([t5, t63] : List (List Int)).length 2]) (by kernel_rfl) (fun W hI => (Calls.lendR (Φ := fun v' N => ∃ (AR90 : Option Addr), ∃ (cR90 : Nat), ∃ (CR90 : Chunk), v' = .slice AR90 t88.length cR90 ∧ Ow (kInt .i64) G AR90 cR90 t88 CR90 ∧ N = [CR90]) (i := 5) rfl (Ow.nodup HR7) hI (fun _ e l91 hI => by subst e; exact Calls.lendR (Φ := fun v' N => ∃ (AR90 : Option Addr), ∃ (cR90 : Nat), ∃ (CR90 : Chunk), v' = .slice AR90 t88.length cR90 ∧ Ow (kInt .i64) G AR90 cR90 t88 CR90 ∧ N = [CR90]) (i := 3) rfl (Ow.nodup (HR65.mono l91)) hI (fun _ e l92 hI => by subst e; exact Calls.lendR (Φ := fun v' N => ∃ (AR90 : Option Addr), ∃ (cR90 : Nat), ∃ (CR90 : Chunk), v' = .slice AR90 t88.length cR90 ∧ Ow (kInt .i64) G AR90 cR90 t88 CR90 ∧ N = [CR90]) (i := 0) rfl (by simp) hI (fun _ e l93 hI => by subst e; exact ((vector_Meet_calls k ([t5, t63] : List (List Int)) (some ⟨b85, 0, none⟩) 2 ((Ow.lit (kd := (kSlice (kInt .i64))) (b := b85) (T := 52) (xs := ([t5, t63] : List (List Int))) (cs := [.slice AR7 t5.length cR7, .slice AR65 t63.length cR65]) (.cons (x := t5) (cs := [.slice AR7 t5.length cR7]) ⟨AR7, cR7, rfl, ((HR7.rd l91).mono l92)⟩ (.cons (x := t63) (cs := [.slice AR65 t63.length cR65]) ⟨AR65, cR65, rfl, ((HR65.mono l91).rd l92)⟩ .nil))).rd l93) t88 ht89 hI).mono fun _ _ hr => by obtain ⟨_, _, _, rfl, ⟨AR90, cR90, CR90, rfl, HR90, rfl, rfl⟩, hI⟩ := hr; exact ⟨_, _, _, rfl, ⟨[CR90], ⟨AR90, cR90, CR90, rfl, (HR90.flat (kInt_flat _)), rfl⟩, rfl, rfl⟩, hI⟩))))).mono fun _ _ hr => by obtain ⟨_, _, _, rfl, ⟨_, ⟨AR90, cR90, CR90, rfl, HR90, rfl⟩, rfl, rfl⟩, hI⟩ := hr; exact ⟨_, _, _, rfl, ⟨AR90, cR90, CR90, rfl, HR90, rfl, rfl⟩, hI⟩)) ?_
            rintro _ _ _ ⟨AR90, cR90, CR90, rfl, HR90, rfl, rfl⟩
            refine WL.pure 15 19 [1, 7, 8, 9, 63, 78] (L' := [(1, .int .i64 (IntKind.i64.wrap (1 + t1))), (7, .slice AR7 t5.length cR7), (8, .slice AR10 t8.length cR10), (9, .slice AR65 t63.length cR65), (63, .bool false), (78, .bool ((t88.length : Int) == 0))]) (by kernel_rfl) (by decide) ?_
            refine WL.split 78 (b := ((t88.length : Int) == 0)) (by kernel_rfl) (fun hc => ?_) (fun hc => ?_)
            · replace hc := eq_of_beq hc
              rw [if_pos hc] at h
              have hc94 := hc
              clear hc
              refine WL.pure 19 21 [1, 7, 8, 9, 63, 78, 79, 80] (L' := [(1, .int .i64 (IntKind.i64.wrap (1 + t1))), (7, .slice AR7 t5.length cR7), (8, .slice AR10 t8.length cR10), (9, .slice AR65 t63.length cR65), (63, .bool false), (78, .bool true), (79, .slice AR65 t63.length cR65), (80, .slice AR7 t5.length cR7)]) (by kernel_rfl) (by decide) ?_
              rw [Option.bind_eq_some_iff] at h
              obtain ⟨t95, ht96, h⟩ := h
              refine WL.op (op := .call { callee := (.value (.func 36)), args := #[(.tmp 79), (.tmp 80)], argTypes := #[52, 52] }) (ty := 4) (d := some 81) (g := some (18, true)) (by kernel_rfl) (by kernel_rfl) (by kernel_rfl) (Does.call (Φ := fun v' G' Γ' => v' = .bool t95 ∧ G = G' ∧ CR90 :: [(b85, .cells #[.slice AR7 t5.length cR7, .slice AR65 t63.length cR65] 52 (0, 0))] :: CR80 :: [(b75, .cells #[.slice AR7 t5.length cR7, .slice AR65 t63.length cR65] 52 (0, 0))] :: CR65 :: CR10 :: CR7 :: Γ = Γ') (f := 36) (args := [.slice AR65 t63.length cR65, .slice AR7 t5.length cR7]) (by kernel_rfl) (fun W hI => Calls.lend (i := 4) rfl (Ow.nodup HR65) hI (fun _ e l97 hI => by subst e; exact Calls.lend (i := 6) rfl (Ow.nodup (HR7.mono l97)) hI (fun _ e l98 hI => by subst e; exact (vector_Below_calls k t63 t5 AR65 cR65 ((HR65.rd l97).mono l98) AR7 cR7 ((HR7.mono l97).rd l98) t95 ht96 hI))))) ?_
              rintro _ _ _ ⟨rfl, rfl, rfl⟩
              refine WL.pure 22 25 [1, 7, 8, 9, 63, 84] (L' := [(1, .int .i64 (IntKind.i64.wrap (1 + t1))), (7, .slice AR7 t5.length cR7), (8, .slice AR10 t8.length cR10), (9, .slice AR65 t63.length cR65), (63, .bool false), (84, .bool (!t95))]) (by kernel_rfl) (by decide) ?_
              refine WL.split 84 (b := (!t95)) (by kernel_rfl) (fun hc => ?_) (fun hc => ?_)
              · replace hc := hc
                rw [if_pos hc] at h
                have hc99 := hc
                clear hc
                refine WL.pure 25 28 [1, 8, 63, 84, 85, 86, 87] (L' := [(1, .int .i64 (IntKind.i64.wrap (1 + t1))), (8, .slice AR10 t8.length cR10), (63, .bool false), (84, .bool true), (85, .slice AR7 t5.length cR7), (86, .slice AR65 t63.length cR65), (87, .slice AR7 t5.length cR7)]) (by kernel_rfl) (by decide) ?_
                rw [Option.bind_eq_some_iff] at h
                obtain ⟨t100, ht101, h⟩ := h
                refine WL.op (op := .call { callee := (.value (.func 40)), args := #[(.tmp 85), (.tmp 86), (.tmp 87)], argTypes := #[52, 52, 52] }) (ty := 60) (d := some 88) (g := some (24, true)) (by kernel_rfl) (by kernel_rfl) (by kernel_rfl) (Does.call (Φ := fun v' G' Γ' => ∃ (AR102 : Option Addr), ∃ (cR102 : Nat), ∃ (CR102 : Chunk), v' = .slice AR102 t100.length cR102 ∧ Ow k63 G AR102 cR102 t100 CR102 ∧ G = G' ∧ CR102 :: CR90 :: [(b85, .cells #[.slice AR7 t5.length cR7, .slice AR65 t63.length cR65] 52 (0, 0))] :: CR80 :: [(b75, .cells #[.slice AR7 t5.length cR7, .slice AR65 t63.length cR65] 52 (0, 0))] :: CR65 :: CR10 :: CR7 :: Γ = Γ') (f := 40) (args := [.slice AR7 t5.length cR7, .slice AR65 t63.length cR65, .slice AR7 t5.length cR7]) (by kernel_rfl) (fun W hI => (Calls.lendR (Φ := fun v' N => ∃ (AR102 : Option Addr), ∃ (cR102 : Nat), ∃ (CR102 : Chunk), v' = .slice AR102 t100.length cR102 ∧ Ow k63 G AR102 cR102 t100 CR102 ∧ N = [CR102]) (i := 6) rfl (Ow.nodup HR7) hI (fun _ e l103 hI => by subst e; exact Calls.lendR (Φ := fun v' N => ∃ (AR102 : Option Addr), ∃ (cR102 : Nat), ∃ (CR102 : Chunk), v' = .slice AR102 t100.length cR102 ∧ Ow k63 G AR102 cR102 t100 CR102 ∧ N = [CR102]) (i := 4) rfl (Ow.nodup (HR65.mono l103)) hI (fun _ e l104 hI => by subst e; exact ((vector_Lack_calls k t5 t63 t5 AR7 cR7 ((HR7.rd l103).mono l104) AR65 cR65 ((HR65.mono l103).rd l104) AR7 cR7 ((HR7.rd l103).mono l104) t100 ht101 hI).mono fun _ _ hr => by obtain ⟨_, _, _, rfl, ⟨AR102, cR102, CR102, rfl, HR102, rfl, rfl⟩, hI⟩ := hr; exact ⟨_, _, _, rfl, ⟨[CR102], ⟨AR102, cR102, CR102, rfl, (HR102.flat (kFlat_flat _ _ _ _)), rfl⟩, rfl, rfl⟩, hI⟩)))).mono fun _ _ hr => by obtain ⟨_, _, _, rfl, ⟨_, ⟨AR102, cR102, CR102, rfl, HR102, rfl⟩, rfl, rfl⟩, hI⟩ := hr; exact ⟨_, _, _, rfl, ⟨AR102, cR102, CR102, rfl, HR102, rfl, rfl⟩, hI⟩)) ?_
                rintro _ _ _ ⟨AR102, cR102, CR102, rfl, HR102, rfl, rfl⟩
                refine WL.pure 29 34 [1, 8, 93] (L' := [(1, .int .i64 (IntKind.i64.wrap (1 + t1))), (8, .slice AR10 t8.length cR10), (93, .bool ((t100.length : Int) == 0))]) (by kernel_rfl) (by decide) ?_
                refine WL.split 93 (b := ((t100.length : Int) == 0)) (by kernel_rfl) (fun hc => ?_) (fun hc => ?_)
                · replace hc := eq_of_beq hc
                  rw [if_pos hc] at h
                  have hc105 := hc
                  clear hc
                  refine WL.pure 34 36 [93, 94, 95] (L' := [(93, .bool true), (94, .slice AR10 t8.length cR10), (95, .int .i64 (IntKind.i64.wrap (1 + t1)))]) (by kernel_rfl) (by decide) ?_
                  rw [Option.bind_eq_some_iff] at h
                  obtain ⟨t106, ht107, h⟩ := h
                  refine WL.op (op := .call { callee := (.value (.func 37)), args := #[(.tmp 94), (.tmp 95)], argTypes := #[52, 3] }) (ty := 4) (d := some 96) (g := some (33, true)) (by kernel_rfl) (by kernel_rfl) (by kernel_rfl) (Does.call (Φ := fun v' G' Γ' => v' = .bool t106 ∧ G = G' ∧ CR102 :: CR90 :: [(b85, .cells #[.slice AR7 t5.length cR7, .slice AR65 t63.length cR65] 52 (0, 0))] :: CR80 :: [(b75, .cells #[.slice AR7 t5.length cR7, .slice AR65 t63.length cR65] 52 (0, 0))] :: CR65 :: CR10 :: CR7 :: Γ = Γ') (f := 37) (args := [.slice AR10 t8.length cR10, .int .i64 (IntKind.i64.wrap (1 + t1))]) (by kernel_rfl) (fun W hI => Calls.lend (i := 6) rfl (Ow.nodup HR10) hI (fun _ e l108 hI => by subst e; exact (vector_May_calls k t8 (IntKind.i64.wrap (1 + t1)) AR10 cR10 (HR10.rd l108) t106 ht107 hI)))) ?_
                  rintro _ _ _ ⟨rfl, rfl, rfl⟩
                  refine WL.pure 37 39 [98] (L' := [(98, .bool t106)]) (by kernel_rfl) (by decide) ?_
                  refine WL.split 98 (b := t106) (by kernel_rfl) (fun hc => ?_) (fun hc => ?_)
                  · replace hc := hc
                    rw [if_pos hc] at h
                    have hc109 := hc
                    clear hc
                    rw [Option.bind_eq_some_iff] at h
                    obtain ⟨t110, ht111, h⟩ := h
                    refine WL.op (op := .call { callee := (.value (.func 39)), args := #[], argTypes := #[] }) (ty := 4) (d := some 99) (g := some (38, true)) (by kernel_rfl) (by kernel_rfl) (by kernel_rfl) (Does.call (f := 39) (args := []) (by kernel_rfl) (fun W hI => (grapevinelaw3_awake_calls k   t110 ht111 hI))) ?_
                    rintro _ _ _ ⟨rfl, rfl, rfl⟩
                    refine WL.rest 40 [6] (L' := [(6, .bool t110)]) (by kernel_rfl) ?_
                    refine QP.dropAt 4 ?_
                    refine QP.dropAt 3 ?_
                    refine QP.dropAt 2 ?_
                    refine QP.dropAt 1 ?_
                    refine QP.dropAt 0 ?_
                    refine QP.pick [6] ?_
                    exact QP.meet ⟨_, Option.some.inj h, rfl, rfl, rfl⟩
                  · replace hc := (Bool.eq_false_iff.1 hc)
                    rw [if_neg hc] at h
                    have hc109 := hc
                    clear hc
                    refine WL.rest 39 [6] (L' := [(6, .bool false)]) (by kernel_rfl) ?_
                    refine QP.dropAt 4 ?_
                    refine QP.dropAt 3 ?_
                    refine QP.dropAt 2 ?_
                    refine QP.dropAt 1 ?_
                    refine QP.dropAt 0 ?_
                    refine QP.pick [6] ?_
                    exact QP.meet ⟨_, Option.some.inj h, rfl, rfl, rfl⟩
                · replace hc := ne_of_beq_false hc
                  rw [if_neg hc] at h
                  have hc105 := hc
                  clear hc
                  refine WL.rest 34 [6] (L' := [(6, .bool false)]) (by kernel_rfl) ?_
                  refine QP.dropAt 4 ?_
                  refine QP.dropAt 3 ?_
                  refine QP.dropAt 2 ?_
                  refine QP.dropAt 1 ?_
                  refine QP.dropAt 0 ?_
                  refine QP.pick [6] ?_
                  exact QP.meet ⟨_, Option.some.inj h, rfl, rfl, rfl⟩
              · replace hc := (Bool.eq_false_iff.1 hc)
                rw [if_neg hc] at h
                have hc99 := hc
                clear hc
                refine WL.rest 25 [6] (L' := [(6, .bool false)]) (by kernel_rfl) ?_
                refine QP.dropAt 3 ?_
                refine QP.dropAt 2 ?_
                refine QP.dropAt 1 ?_
                refine QP.dropAt 0 ?_
                refine QP.pick [6] ?_
                exact QP.meet ⟨_, Option.some.inj h, rfl, rfl, rfl⟩
            · replace hc := ne_of_beq_false hc
              rw [if_neg hc] at h
              have hc94 := hc
              clear hc
              refine WL.rest 19 [6] (L' := [(6, .bool false)]) (by kernel_rfl) ?_
              refine QP.dropAt 3 ?_
              refine QP.dropAt 2 ?_
              refine QP.dropAt 1 ?_
              refine QP.dropAt 0 ?_
              refine QP.pick [6] ?_
              exact QP.meet ⟨_, Option.some.inj h, rfl, rfl, rfl⟩
          · replace hc := ne_of_beq_false hc
            rw [if_neg hc] at h
            have hc84 := hc
            clear hc
            refine WL.rest 11 [6] (L' := [(6, .bool false)]) (by kernel_rfl) ?_
            refine QP.dropAt 1 ?_
            refine QP.dropAt 0 ?_
            refine QP.pick [6] ?_
            exact QP.meet ⟨_, Option.some.inj h, rfl, rfl, rfl⟩
      · rintro _ _ _ ⟨s66, rfl, rfl, rfl, rfl⟩
        clear h
        replace h := hk67
        refine WP.ret ?_
        obtain rfl := Option.some.inj h
        refine QP.dropAt 2 ?_
        refine QP.dropAt 1 ?_
        refine QP.dropAt 0 ?_
        exact QP.returned [6] [.bool s66] _ (by kernel_rfl) (by kernel_rfl) (by kernel_rfl) (fun W hI => ⟨_, _, _, rfl, ⟨rfl, rfl, rfl⟩, hI⟩)
/-- The plain law. -/
def VectorZeros_Pure : Prop := ∀ (l0 : List Int) (a1 : Int) (a2 : Int), (l0.length ≤ maxLen ∧ ∀ z0 ∈ l0, (Lit.int .i64 z0).wf = true) → (Lit.int .i64 a1).wf = true → (Lit.int .i64 a2).wf = true → ∃ k, grapevinelaw3_VectorZeros k l0 a1 a2 = some true
end Go.Proofs.Ytmphcmgbognmnaa.Gf
