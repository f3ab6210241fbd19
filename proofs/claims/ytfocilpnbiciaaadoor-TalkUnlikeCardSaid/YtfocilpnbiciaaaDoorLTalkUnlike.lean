/- Walks of Go functions: what each tells, as a plain Lean function, and that the Go code comes to it. Written by gg.py of this repo. -/
import Derived.Test.YtfocilpnbiciaaaDoorT
import Derived.Test.YtfocilpnbiciaaaDoorF1
import Derived.Test.YtfocilpnbiciaaaDoorF2
import Derived.Test.YtfocilpnbiciaaaDoorF3
namespace Go.Proofs.YtfocilpnbiciaaaDoor.Gf
open Go Go.Gg
set_option maxRecDepth 100000
set_option linter.unusedVariables false
set_option linter.unusedSimpArgs false

/-! ### grapevine/grapevinelaw20.TalkUnlike: function 9 -/
def grapevinelaw20_TalkUnlike (k : Nat) (a0 : T54) (a1 : T54) (a2 : Int) : Option Bool := (((grapevinelaw20_great k a0).bind fun t5 => (if t5 = true then some true else ((grapevinelaw20_great k a1).bind fun t10 => some t10))).bind fun s3 => (if s3 = true then ((grapevinelaw20_awake k ).bind fun t15 => some t15) else ((grapevinelaw0_Low a2 8).bind fun t19 => ((talk_Lay k a0 (IntKind.i64.wrap (1 + t19))).bind fun t23 => ((talk_Lay k a1 (IntKind.i64.wrap (1 + t19))).bind fun t27 => ((talk_Lay k a0 (IntKind.i64.wrap ((IntKind.i64.wrap (1 + t19)) + 1))).bind fun t31 => ((if ¬ t23.2 = 0 then some true else some (t27.2 != 0)).bind fun s35 => (if s35 = true then ((if t23.2 = 0 then (if t27.2 = 0 then ((grapevinelaw20_awake k ).bind fun t43 => some t43) else (if (t27.1.length : Int) = 0 then ((grapevinelaw20_awake k ).bind fun t48 => some t48) else some false)) else (if (t23.1.length : Int) = 0 then (if t27.2 = 0 then ((grapevinelaw20_awake k ).bind fun t54 => some t54) else (if (t27.1.length : Int) = 0 then ((grapevinelaw20_awake k ).bind fun t59 => some t59) else some false)) else some false)).bind fun s39 => some s39) else ((talk_Read k t23.1 (IntKind.i64.wrap ((IntKind.i64.wrap (1 + t19)) + 1))).bind fun t63 => (((grapevinelaw0_SameBytes k t23.1 t27.1).bind fun t71 => ((talk_Same k a0 a1).bind fun t77 => (if (t71 == t77) = true then (if t31.2 = 2 then (if t63.2 = 12 then ((grapevinelaw20_awake k ).bind fun t84 => some t84) else some false) else some false) else some false))).bind fun s69 => some s69))))))))))
set_option maxHeartbeats 4000000 in
theorem grapevinelaw20_TalkUnlike_calls {B : World} {G : GMap} {Γ : List Chunk} {W : World} (HT : Tabs B G) (k : Nat) (a0 : T54) (a1 : T54) (a2 : Int) (Aa0_f3 : Option Addr) (ca0_f3 : Nat) (Ha0_f3 : Rd (kInt .i64) G Aa0_f3 ca0_f3 a0.f3) (Aa0_f4 : Option Addr) (ca0_f4 : Nat) (Ha0_f4 : Rd (kInt .i64) G Aa0_f4 ca0_f4 a0.f4) (Aa0_f5 : Option Addr) (ca0_f5 : Nat) (Ha0_f5 : Rd k39 G Aa0_f5 ca0_f5 a0.f5) (Aa1_f3 : Option Addr) (ca1_f3 : Nat) (Ha1_f3 : Rd (kInt .i64) G Aa1_f3 ca1_f3 a1.f3) (Aa1_f4 : Option Addr) (ca1_f4 : Nat) (Ha1_f4 : Rd (kInt .i64) G Aa1_f4 ca1_f4 a1.f4) (Aa1_f5 : Option Addr) (ca1_f5 : Nat) (Ha1_f5 : Rd k39 G Aa1_f5 ca1_f5 a1.f5) (r : Bool) (h : grapevinelaw20_TalkUnlike k a0 a1 a2 = some r) (hI : Inv B G (Γ) W) :
    Calls Tryd.prog 9 [.agg #[.int .i64 a0.f0, .int .i64 a0.f1, .int .i64 a0.f2, .slice Aa0_f3 a0.f3.length ca0_f3, .slice Aa0_f4 a0.f4.length ca0_f4, .slice Aa0_f5 a0.f5.length ca0_f5], .agg #[.int .i64 a1.f0, .int .i64 a1.f1, .int .i64 a1.f2, .slice Aa1_f3 a1.f3.length ca1_f3, .slice Aa1_f4 a1.f4.length ca1_f4, .slice Aa1_f5 a1.f5.length ca1_f5], .int .i64 a2].toArray W (Ret B (fun v G' Γ' => v = .bool r ∧ G = G' ∧ Γ = Γ')) := by
  refine calls_WP (Γ := Γ) (G := G) (B := B) Tryd.func9 rfl (by kernel_rfl) ?_ hI
  clear hI
  unfold grapevinelaw20_TalkUnlike at h
  refine WP.seqR ?_
  refine WL.op (op := .box 54 (.tmp 0)) (ty := 0) (d := some 3) (g := none) (by kernel_rfl) (by kernel_rfl) (by kernel_rfl) (Does.new (o := .cells #[.int .i64 a0.f0, .int .i64 a0.f1, .int .i64 a0.f2, .slice Aa0_f3 a0.f3.length ca0_f3, .slice Aa0_f4 a0.f4.length ca0_f4, .slice Aa0_f5 a0.f5.length ca0_f5] 54 (0, 0)) (v := fun r => .pointer (some ⟨r, 0, none⟩)) (fun r => by kernel_rfl)) ?_
  rintro _ _ _ ⟨b1, rfl, rfl, rfl⟩
  refine WL.op (op := .box 54 (.tmp 1)) (ty := 0) (d := some 4) (g := none) (by kernel_rfl) (by kernel_rfl) (by kernel_rfl) (Does.new (o := .cells #[.int .i64 a1.f0, .int .i64 a1.f1, .int .i64 a1.f2, .slice Aa1_f3 a1.f3.length ca1_f3, .slice Aa1_f4 a1.f4.length ca1_f4, .slice Aa1_f5 a1.f5.length ca1_f5] 54 (0, 0)) (v := fun r => .pointer (some ⟨r, 0, none⟩)) (fun r => by kernel_rfl)) ?_
  rintro _ _ _ ⟨b2, rfl, rfl, rfl⟩
  refine WL.restQ 2 [2, 3, 4] (L' := [(2, .int .i64 a2), (3, .pointer (some ⟨b1, 0, none⟩)), (4, .pointer (some ⟨b2, 0, none⟩))]) (by kernel_rfl) ?_
  refine WP.seq ?_
  rw [Option.bind_eq_some_iff] at h
  obtain ⟨os3, h, hk4⟩ := h
  refine WP.cut (fun L' G' Γ' => ∃ s3 : Bool, s3 = os3 ∧ L' = [(2, .int .i64 a2), (3, .pointer (some ⟨b1, 0, none⟩)), (4, .pointer (some ⟨b2, 0, none⟩)), (20, .bool s3)] ∧ G = G' ∧ [(b2, .cells #[.int .i64 a1.f0, .int .i64 a1.f1, .int .i64 a1.f2, .slice Aa1_f3 a1.f3.length ca1_f3, .slice Aa1_f4 a1.f4.length ca1_f4, .slice Aa1_f5 a1.f5.length ca1_f5] 54 (0, 0))] :: [(b1, .cells #[.int .i64 a0.f0, .int .i64 a0.f1, .int .i64 a0.f2, .slice Aa0_f3 a0.f3.length ca0_f3, .slice Aa0_f4 a0.f4.length ca0_f4, .slice Aa0_f5 a0.f5.length ca0_f5] 54 (0, 0))] :: Γ = Γ') ?_ ?_
  · clear hk4
    refine WP.region ?_
    refine WL.tell (op := .load 54 (.tmp 3)) (ty := 54) (d := some 15) (g := none) (by kernel_rfl) (by kernel_rfl) (by kernel_rfl) (Tells.load_box (i := 1) (b := b1) (o := 0) (agg := true) (by rfl) ag54 (by kernel_rfl) (fun h => by cases h) (Nat.le_of_ble_eq_true rfl) (v := .agg #[.int .i64 a0.f0, .int .i64 a0.f1, .int .i64 a0.f2, .slice Aa0_f3 a0.f3.length ca0_f3, .slice Aa0_f4 a0.f4.length ca0_f4, .slice Aa0_f5 a0.f5.length ca0_f5]) (by kernel_rfl)) ?_
    rw [Option.bind_eq_some_iff] at h
    obtain ⟨t5, ht6, h⟩ := h
    refine WL.op (op := .call { callee := (.value (.func 24)), args := #[(.tmp 15)], argTypes := #[54] }) (ty := 4) (d := some 16) (g := none) (by kernel_rfl) (by kernel_rfl) (by kernel_rfl) (Does.call (f := 24) (args := [.agg #[.int .i64 a0.f0, .int .i64 a0.f1, .int .i64 a0.f2, .slice Aa0_f3 a0.f3.length ca0_f3, .slice Aa0_f4 a0.f4.length ca0_f4, .slice Aa0_f5 a0.f5.length ca0_f5]]) (by kernel_rfl) (fun W hI => (grapevinelaw20_great_calls k a0 Aa0_f3 ca0_f3 Ha0_f3 Aa0_f4 ca0_f4 Ha0_f4 Aa0_f5 ca0_f5 Ha0_f5 t5 ht6 hI))) ?_
    rintro _ _ _ ⟨rfl, rfl, rfl⟩
    refine WL.pure 2 3 [2, 3, 4, 17] (L' := [(2, .int .i64 a2), (3, .pointer (some ⟨b1, 0, none⟩)), (4, .pointer (some ⟨b2, 0, none⟩)), (17, .bool t5)]) (by kernel_rfl) (by decide) ?_
    refine WL.split 17 (b := t5) (by kernel_rfl) (fun hc => ?_) (fun hc => ?_)
    · replace hc := hc
      rw [if_pos hc] at h
      have hc9 := hc
      clear hc
      refine WL.rest 3 [2, 3, 4, 20] (L' := [(2, .int .i64 a2), (3, .pointer (some ⟨b1, 0, none⟩)), (4, .pointer (some ⟨b2, 0, none⟩)), (20, .bool true)]) (by kernel_rfl) ?_
      refine QP.pick [2, 3, 4, 20] ?_
      exact QP.meet ⟨_, Option.some.inj h, rfl, rfl, rfl⟩
    · replace hc := (Bool.eq_false_iff.1 hc)
      rw [if_neg hc] at h
      have hc9 := hc
      clear hc
      refine WL.tell (op := .load 54 (.tmp 4)) (ty := 54) (d := some 18) (g := some (2, false)) (by kernel_rfl) (by kernel_rfl) (by kernel_rfl) (Tells.load_box (i := 0) (b := b2) (o := 0) (agg := true) (by rfl) ag54 (by kernel_rfl) (fun h => by cases h) (Nat.le_of_ble_eq_true rfl) (v := .agg #[.int .i64 a1.f0, .int .i64 a1.f1, .int .i64 a1.f2, .slice Aa1_f3 a1.f3.length ca1_f3, .slice Aa1_f4 a1.f4.length ca1_f4, .slice Aa1_f5 a1.f5.length ca1_f5]) (by kernel_rfl)) ?_
      rw [Option.bind_eq_some_iff] at h
      obtain ⟨t10, ht11, h⟩ := h
      refine WL.op (op := .call { callee := (.value (.func 24)), args := #[(.tmp 18)], argTypes := #[54] }) (ty := 4) (d := some 19) (g := some (2, false)) (by kernel_rfl) (by kernel_rfl) (by kernel_rfl) (Does.call (f := 24) (args := [.agg #[.int .i64 a1.f0, .int .i64 a1.f1, .int .i64 a1.f2, .slice Aa1_f3 a1.f3.length ca1_f3, .slice Aa1_f4 a1.f4.length ca1_f4, .slice Aa1_f5 a1.f5.length ca1_f5]]) (by kernel_rfl) (fun W hI => (grapevinelaw20_great_calls k a1 Aa1_f3 ca1_f3 Ha1_f3 Aa1_f4 ca1_f4 Ha1_f4 Aa1_f5 ca1_f5 Ha1_f5 t10 ht11 hI))) ?_
      rintro _ _ _ ⟨rfl, rfl, rfl⟩
      refine WL.rest 5 [2, 3, 4, 20] (L' := [(2, .int .i64 a2), (3, .pointer (some ⟨b1, 0, none⟩)), (4, .pointer (some ⟨b2, 0, none⟩)), (20, .bool t10)]) (by kernel_rfl) ?_
      refine QP.pick [2, 3, 4, 20] ?_
      exact QP.meet ⟨_, Option.some.inj h, rfl, rfl, rfl⟩
  · rintro _ _ _ ⟨s3, rfl, rfl, rfl, rfl⟩
    clear h
    replace h := hk4
    refine WP.cond (b := s3) (by kernel_rfl) (fun hc => ?_) (fun hc => ?_)
    · replace hc := hc
      rw [if_pos hc] at h
      have hc14 := hc
      clear hc
      refine WP.seqR ?_
      rw [Option.bind_eq_some_iff] at h
      obtain ⟨t15, ht16, h⟩ := h
      refine WL.op (op := .call { callee := (.value (.func 25)), args := #[], argTypes := #[] }) (ty := 4) (d := some 21) (g := none) (by kernel_rfl) (by kernel_rfl) (by kernel_rfl) (Does.call (f := 25) (args := []) (by kernel_rfl) (fun W hI => (grapevinelaw20_awake_calls HT k   t15 ht16 hI))) ?_
      rintro _ _ _ ⟨rfl, rfl, rfl⟩
      refine WL.restQ 1 [6] (L' := [(6, .bool t15)]) (by kernel_rfl) ?_
      refine WP.dropAt 1 ?_
      refine WP.dropAt 0 ?_
      refine WP.ret ?_
      refine QP.thenR ?_
      obtain rfl := Option.some.inj h
      exact QP.returned [6] [.bool t15] _ (by kernel_rfl) (by kernel_rfl) (by kernel_rfl) (fun W hI => ⟨_, _, _, rfl, ⟨rfl, rfl, rfl⟩, hI⟩)
    · replace hc := (Bool.eq_false_iff.1 hc)
      rw [if_neg hc] at h
      have hc14 := hc
      clear hc
      refine WP.skip ?_
      refine QP.next ?_
      refine WP.pick [2, 3, 4] ?_
      refine WP.seqR ?_
      refine WL.pure 0 1 [2, 3, 4, 22] (L' := [(2, .int .i64 a2), (3, .pointer (some ⟨b1, 0, none⟩)), (4, .pointer (some ⟨b2, 0, none⟩)), (22, .int .i64 a2)]) (by kernel_rfl) (by decide) ?_
      rw [Option.bind_eq_some_iff] at h
      obtain ⟨t19, ht20, h⟩ := h
      refine WL.op (op := .call { callee := (.value (.func 20)), args := #[(.tmp 22), (.const (.int .i64 8))], argTypes := #[3, 3] }) (ty := 3) (d := some 23) (g := none) (by kernel_rfl) (by kernel_rfl) (by kernel_rfl) (Does.call (f := 20) (args := [.int .i64 a2, .int .i64 8]) (by kernel_rfl) (fun W hI => (grapevinelaw0_Low_calls a2 8  t19 ht20 hI))) ?_
      rintro _ _ _ ⟨rfl, rfl, rfl⟩
      refine WL.restQ 2 [2, 3, 4] (L' := [(2, .int .i64 (IntKind.i64.wrap (1 + t19))), (3, .pointer (some ⟨b1, 0, none⟩)), (4, .pointer (some ⟨b2, 0, none⟩))]) (by kernel_rfl) ?_
      refine WP.seqR ?_
      refine WL.tell (op := .load 54 (.tmp 3)) (ty := 54) (d := some 26) (g := none) (by kernel_rfl) (by kernel_rfl) (by kernel_rfl) (Tells.load_box (i := 1) (b := b1) (o := 0) (agg := true) (by rfl) ag54 (by kernel_rfl) (fun h => by cases h) (Nat.le_of_ble_eq_true rfl) (v := .agg #[.int .i64 a0.f0, .int .i64 a0.f1, .int .i64 a0.f2, .slice Aa0_f3 a0.f3.length ca0_f3, .slice Aa0_f4 a0.f4.length ca0_f4, .slice Aa0_f5 a0.f5.length ca0_f5]) (by kernel_rfl)) ?_
      refine WL.pure 1 2 [2, 3, 4, 26, 27] (L' := [(2, .int .i64 (IntKind.i64.wrap (1 + t19))), (3, .pointer (some ⟨b1, 0, none⟩)), (4, .pointer (some ⟨b2, 0, none⟩)), (26, .agg #[.int .i64 a0.f0, .int .i64 a0.f1, .int .i64 a0.f2, .slice Aa0_f3 a0.f3.length ca0_f3, .slice Aa0_f4 a0.f4.length ca0_f4, .slice Aa0_f5 a0.f5.length ca0_f5]), (27, .int .i64 (IntKind.i64.wrap (1 + t19)))]) (by kernel_rfl) (by decide) ?_
      rw [Option.bind_eq_some_iff] at h
      obtain ⟨t23, ht24, h⟩ := h
      refine WL.op (op := .call { callee := (.value (.func 26)), args := #[(.tmp 26), (.tmp 27)], argTypes := #[54, 3] }) (ty := 44) (d := some 28) (g := none) (by kernel_rfl) (by kernel_rfl) (by kernel_rfl) (Does.call (f := 26) (args := [.agg #[.int .i64 a0.f0, .int .i64 a0.f1, .int .i64 a0.f2, .slice Aa0_f3 a0.f3.length ca0_f3, .slice Aa0_f4 a0.f4.length ca0_f4, .slice Aa0_f5 a0.f5.length ca0_f5], .int .i64 (IntKind.i64.wrap (1 + t19))]) (by kernel_rfl) (fun W hI => (talk_Lay_calls HT k a0 (IntKind.i64.wrap (1 + t19)) Aa0_f3 ca0_f3 Ha0_f3 Aa0_f4 ca0_f4 Ha0_f4 Aa0_f5 ca0_f5 Ha0_f5 t23 ht24 hI))) ?_
      rintro _ _ _ ⟨AR250, cR250, CR250, rfl, HR250, rfl, rfl⟩
      refine WL.restQ 3 [2, 3, 4, 7, 8] (L' := [(2, .int .i64 (IntKind.i64.wrap (1 + t19))), (3, .pointer (some ⟨b1, 0, none⟩)), (4, .pointer (some ⟨b2, 0, none⟩)), (7, .slice AR250 t23.1.length cR250), (8, .int .i64 t23.2)]) (by kernel_rfl) ?_
      refine WP.seqR ?_
      refine WL.tell (op := .load 54 (.tmp 4)) (ty := 54) (d := some 32) (g := none) (by kernel_rfl) (by kernel_rfl) (by kernel_rfl) (Tells.load_box (i := 1) (b := b2) (o := 0) (agg := true) (by rfl) ag54 (by kernel_rfl) (fun h => by cases h) (Nat.le_of_ble_eq_true rfl) (v := .agg #[.int .i64 a1.f0, .int .i64 a1.f1, .int .i64 a1.f2, .slice Aa1_f3 a1.f3.length ca1_f3, .slice Aa1_f4 a1.f4.length ca1_f4, .slice Aa1_f5 a1.f5.length ca1_f5]) (by kernel_rfl)) ?_
      refine WL.pure 1 2 [2, 3, 4, 7, 8, 32, 33] (L' := [(2, .int .i64 (IntKind.i64.wrap (1 + t19))), (3, .pointer (some ⟨b1, 0, none⟩)), (4, .pointer (some ⟨b2, 0, none⟩)), (7, .slice AR250 t23.1.length cR250), (8, .int .i64 t23.2), (32, .agg #[.int .i64 a1.f0, .int .i64 a1.f1, .int .i64 a1.f2, .slice Aa1_f3 a1.f3.length ca1_f3, .slice Aa1_f4 a1.f4.length ca1_f4, .slice Aa1_f5 a1.f5.length ca1_f5]), (33, .int .i64 (IntKind.i64.wrap (1 + t19)))]) (by kernel_rfl) (by decide) ?_
      rw [Option.bind_eq_some_iff] at h
      obtain ⟨t27, ht28, h⟩ := h
      refine WL.op (op := .call { callee := (.value (.func 26)), args := #[(.tmp 32), (.tmp 33)], argTypes := #[54, 3] }) (ty := 44) (d := some 34) (g := none) (by kernel_rfl) (by kernel_rfl) (by kernel_rfl) (Does.call (f := 26) (args := [.agg #[.int .i64 a1.f0, .int .i64 a1.f1, .int .i64 a1.f2, .slice Aa1_f3 a1.f3.length ca1_f3, .slice Aa1_f4 a1.f4.length ca1_f4, .slice Aa1_f5 a1.f5.length ca1_f5], .int .i64 (IntKind.i64.wrap (1 + t19))]) (by kernel_rfl) (fun W hI => (talk_Lay_calls HT k a1 (IntKind.i64.wrap (1 + t19)) Aa1_f3 ca1_f3 Ha1_f3 Aa1_f4 ca1_f4 Ha1_f4 Aa1_f5 ca1_f5 Ha1_f5 t27 ht28 hI))) ?_
      rintro _ _ _ ⟨AR290, cR290, CR290, rfl, HR290, rfl, rfl⟩
      refine WL.restQ 3 [2, 3, 4, 7, 8, 9, 10] (L' := [(2, .int .i64 (IntKind.i64.wrap (1 + t19))), (3, .pointer (some ⟨b1, 0, none⟩)), (4, .pointer (some ⟨b2, 0, none⟩)), (7, .slice AR250 t23.1.length cR250), (8, .int .i64 t23.2), (9, .slice AR290 t27.1.length cR290), (10, .int .i64 t27.2)]) (by kernel_rfl) ?_
      refine WP.seqR ?_
      refine WL.tell (op := .load 54 (.tmp 3)) (ty := 54) (d := some 38) (g := none) (by kernel_rfl) (by kernel_rfl) (by kernel_rfl) (Tells.load_box (i := 3) (b := b1) (o := 0) (agg := true) (by rfl) ag54 (by kernel_rfl) (fun h => by cases h) (Nat.le_of_ble_eq_true rfl) (v := .agg #[.int .i64 a0.f0, .int .i64 a0.f1, .int .i64 a0.f2, .slice Aa0_f3 a0.f3.length ca0_f3, .slice Aa0_f4 a0.f4.length ca0_f4, .slice Aa0_f5 a0.f5.length ca0_f5]) (by kernel_rfl)) ?_
      refine WL.pure 1 3 [2, 3, 4, 7, 8, 9, 10, 38, 40] (L' := [(2, .int .i64 (IntKind.i64.wrap (1 + t19))), (3, .pointer (some ⟨b1, 0, none⟩)), (4, .pointer (some ⟨b2, 0, none⟩)), (7, .slice AR250 t23.1.length cR250), (8, .int .i64 t23.2), (9, .slice AR290 t27.1.length cR290), (10, .int .i64 t27.2), (38, .agg #[.int .i64 a0.f0, .int .i64 a0.f1, .int .i64 a0.f2, .slice Aa0_f3 a0.f3.length ca0_f3, .slice Aa0_f4 a0.f4.length ca0_f4, .slice Aa0_f5 a0.f5.length ca0_f5]), (40, .int .i64 (IntKind.i64.wrap ((IntKind.i64.wrap (1 + t19)) + 1)))]) (by kernel_rfl) (by decide) ?_
      rw [Option.bind_eq_some_iff] at h
      obtain ⟨t31, ht32, h⟩ := h
      refine WL.op (op := .call { callee := (.value (.func 26)), args := #[(.tmp 38), (.tmp 40)], argTypes := #[54, 3] }) (ty := 44) (d := some 41) (g := none) (by kernel_rfl) (by kernel_rfl) (by kernel_rfl) (Does.call (f := 26) (args := [.agg #[.int .i64 a0.f0, .int .i64 a0.f1, .int .i64 a0.f2, .slice Aa0_f3 a0.f3.length ca0_f3, .slice Aa0_f4 a0.f4.length ca0_f4, .slice Aa0_f5 a0.f5.length ca0_f5], .int .i64 (IntKind.i64.wrap ((IntKind.i64.wrap (1 + t19)) + 1))]) (by kernel_rfl) (fun W hI => (talk_Lay_calls HT k a0 (IntKind.i64.wrap ((IntKind.i64.wrap (1 + t19)) + 1)) Aa0_f3 ca0_f3 Ha0_f3 Aa0_f4 ca0_f4 Ha0_f4 Aa0_f5 ca0_f5 Ha0_f5 t31 ht32 hI))) ?_
      rintro _ _ _ ⟨AR330, cR330, CR330, rfl, HR330, rfl, rfl⟩
      refine WL.restQ 4 [2, 3, 4, 7, 8, 9, 10, 12] (L' := [(2, .int .i64 (IntKind.i64.wrap (1 + t19))), (3, .pointer (some ⟨b1, 0, none⟩)), (4, .pointer (some ⟨b2, 0, none⟩)), (7, .slice AR250 t23.1.length cR250), (8, .int .i64 t23.2), (9, .slice AR290 t27.1.length cR290), (10, .int .i64 t27.2), (12, .int .i64 t31.2)]) (by kernel_rfl) ?_
      refine WP.dropAt 0 ?_
      refine WP.seq ?_
      rw [Option.bind_eq_some_iff] at h
      obtain ⟨os35, h, hk36⟩ := h
      refine WP.cut (fun L' G' Γ' => ∃ s35 : Bool, s35 = os35 ∧ L' = [(2, .int .i64 (IntKind.i64.wrap (1 + t19))), (3, .pointer (some ⟨b1, 0, none⟩)), (4, .pointer (some ⟨b2, 0, none⟩)), (7, .slice AR250 t23.1.length cR250), (8, .int .i64 t23.2), (9, .slice AR290 t27.1.length cR290), (10, .int .i64 t27.2), (12, .int .i64 t31.2), (49, .bool s35)] ∧ G = G' ∧ CR290 :: CR250 :: [(b2, .cells #[.int .i64 a1.f0, .int .i64 a1.f1, .int .i64 a1.f2, .slice Aa1_f3 a1.f3.length ca1_f3, .slice Aa1_f4 a1.f4.length ca1_f4, .slice Aa1_f5 a1.f5.length ca1_f5] 54 (0, 0))] :: [(b1, .cells #[.int .i64 a0.f0, .int .i64 a0.f1, .int .i64 a0.f2, .slice Aa0_f3 a0.f3.length ca0_f3, .slice Aa0_f4 a0.f4.length ca0_f4, .slice Aa0_f5 a0.f5.length ca0_f5] 54 (0, 0))] :: Γ = Γ') ?_ ?_
      · clear hk36
        refine WP.region ?_
        refine WL.pure 0 3 [2, 3, 4, 7, 8, 9, 10, 12, 46] (L' := [(2, .int .i64 (IntKind.i64.wrap (1 + t19))), (3, .pointer (some ⟨b1, 0, none⟩)), (4, .pointer (some ⟨b2, 0, none⟩)), (7, .slice AR250 t23.1.length cR250), (8, .int .i64 t23.2), (9, .slice AR290 t27.1.length cR290), (10, .int .i64 t27.2), (12, .int .i64 t31.2), (46, .bool (t23.2 != 0))]) (by kernel_rfl) (by decide) ?_
        refine WL.split 46 (b := (t23.2 != 0)) (by kernel_rfl) (fun hc => ?_) (fun hc => ?_)
        · replace hc := (bne_iff_ne.1 hc)
          rw [if_pos hc] at h
          have hc37 := hc
          clear hc
          refine WL.rest 3 [2, 3, 4, 7, 8, 9, 10, 12, 49] (L' := [(2, .int .i64 (IntKind.i64.wrap (1 + t19))), (3, .pointer (some ⟨b1, 0, none⟩)), (4, .pointer (some ⟨b2, 0, none⟩)), (7, .slice AR250 t23.1.length cR250), (8, .int .i64 t23.2), (9, .slice AR290 t27.1.length cR290), (10, .int .i64 t27.2), (12, .int .i64 t31.2), (49, .bool true)]) (by kernel_rfl) ?_
          refine QP.pick [2, 3, 4, 7, 8, 9, 10, 12, 49] ?_
          exact QP.meet ⟨_, Option.some.inj h, rfl, rfl, rfl⟩
        · replace hc := (not_not_intro (bne_eq_false_iff_eq.1 hc))
          rw [if_neg hc] at h
          have hc37 := hc
          clear hc
          refine WL.rest 3 [2, 3, 4, 7, 8, 9, 10, 12, 49] (L' := [(2, .int .i64 (IntKind.i64.wrap (1 + t19))), (3, .pointer (some ⟨b1, 0, none⟩)), (4, .pointer (some ⟨b2, 0, none⟩)), (7, .slice AR250 t23.1.length cR250), (8, .int .i64 t23.2), (9, .slice AR290 t27.1.length cR290), (10, .int .i64 t27.2), (12, .int .i64 t31.2), (49, .bool (t27.2 != 0))]) (by kernel_rfl) ?_
          refine QP.pick [2, 3, 4, 7, 8, 9, 10, 12, 49] ?_
          exact QP.meet ⟨_, Option.some.inj h, rfl, rfl, rfl⟩
      · rintro _ _ _ ⟨s35, rfl, rfl, rfl, rfl⟩
        clear h
        replace h := hk36
        refine WP.cond (b := s35) (by kernel_rfl) (fun hc => ?_) (fun hc => ?_)
        · replace hc := hc
          rw [if_pos hc] at h
          have hc38 := hc
          clear hc
          rw [Option.bind_eq_some_iff] at h
          obtain ⟨os39, h, hk40⟩ := h
          refine WP.cut (fun L' G' Γ' => ∃ s39 : Bool, s39 = os39 ∧ L' = [(6, .bool s39)] ∧ G = G' ∧ Γ = Γ') ?_ ?_
          · clear hk40
            refine WP.region ?_
            refine WL.pure 0 3 [7, 9, 10, 52] (L' := [(7, .slice AR250 t23.1.length cR250), (9, .slice AR290 t27.1.length cR290), (10, .int .i64 t27.2), (52, .bool (t23.2 == 0))]) (by kernel_rfl) (by decide) ?_
            refine WL.split 52 (b := (t23.2 == 0)) (by kernel_rfl) (fun hc => ?_) (fun hc => ?_)
            · replace hc := eq_of_beq hc
              rw [if_pos hc] at h
              have hc41 := hc
              clear hc
              refine WL.pure 3 11 [9, 57, 60] (L' := [(9, .slice AR290 t27.1.length cR290), (57, .bool true), (60, .bool (t27.2 == 0))]) (by kernel_rfl) (by decide) ?_
              refine WL.split 60 (b := (t27.2 == 0)) (by kernel_rfl) (fun hc => ?_) (fun hc => ?_)
              · replace hc := eq_of_beq hc
                rw [if_pos hc] at h
                have hc42 := hc
                clear hc
                refine WL.pure 11 17 [66] (L' := [(66, .bool true)]) (by kernel_rfl) (by decide) ?_
                rw [Option.bind_eq_some_iff] at h
                obtain ⟨t43, ht44, h⟩ := h
                refine WL.op (op := .call { callee := (.value (.func 25)), args := #[], argTypes := #[] }) (ty := 4) (d := some 67) (g := some (16, true)) (by kernel_rfl) (by kernel_rfl) (by kernel_rfl) (Does.call (f := 25) (args := []) (by kernel_rfl) (fun W hI => (grapevinelaw20_awake_calls HT k   t43 ht44 hI))) ?_
                rintro _ _ _ ⟨rfl, rfl, rfl⟩
                refine WL.rest 18 [6] (L' := [(6, .bool t43)]) (by kernel_rfl) ?_
                refine QP.dropAt 3 ?_
                refine QP.dropAt 2 ?_
                refine QP.dropAt 1 ?_
                refine QP.dropAt 0 ?_
                refine QP.pick [6] ?_
                exact QP.meet ⟨_, Option.some.inj h, rfl, rfl, rfl⟩
              · replace hc := ne_of_beq_false hc
                rw [if_neg hc] at h
                have hc42 := hc
                clear hc
                refine WL.pure 11 17 [66] (L' := [(66, .bool ((t27.1.length : Int) == 0))]) (by kernel_rfl) (by decide) ?_
                refine WL.split 66 (b := ((t27.1.length : Int) == 0)) (by kernel_rfl) (fun hc => ?_) (fun hc => ?_)
                · replace hc := eq_of_beq hc
                  rw [if_pos hc] at h
                  have hc47 := hc
                  clear hc
                  rw [Option.bind_eq_some_iff] at h
                  obtain ⟨t48, ht49, h⟩ := h
                  refine WL.op (op := .call { callee := (.value (.func 25)), args := #[], argTypes := #[] }) (ty := 4) (d := some 67) (g := some (16, true)) (by kernel_rfl) (by kernel_rfl) (by kernel_rfl) (Does.call (f := 25) (args := []) (by kernel_rfl) (fun W hI => (grapevinelaw20_awake_calls HT k   t48 ht49 hI))) ?_
                  rintro _ _ _ ⟨rfl, rfl, rfl⟩
                  refine WL.rest 18 [6] (L' := [(6, .bool t48)]) (by kernel_rfl) ?_
                  refine QP.dropAt 3 ?_
                  refine QP.dropAt 2 ?_
                  refine QP.dropAt 1 ?_
                  refine QP.dropAt 0 ?_
                  refine QP.pick [6] ?_
                  exact QP.meet ⟨_, Option.some.inj h, rfl, rfl, rfl⟩
                · replace hc := ne_of_beq_false hc
                  rw [if_neg hc] at h
                  have hc47 := hc
                  clear hc
                  refine WL.rest 17 [6] (L' := [(6, .bool false)]) (by kernel_rfl) ?_
                  refine QP.dropAt 3 ?_
                  refine QP.dropAt 2 ?_
                  refine QP.dropAt 1 ?_
                  refine QP.dropAt 0 ?_
                  refine QP.pick [6] ?_
                  exact QP.meet ⟨_, Option.some.inj h, rfl, rfl, rfl⟩
            · replace hc := ne_of_beq_false hc
              rw [if_neg hc] at h
              have hc41 := hc
              clear hc
              refine WL.pure 3 8 [9, 10, 57] (L' := [(9, .slice AR290 t27.1.length cR290), (10, .int .i64 t27.2), (57, .bool ((t23.1.length : Int) == 0))]) (by kernel_rfl) (by decide) ?_
              refine WL.split 57 (b := ((t23.1.length : Int) == 0)) (by kernel_rfl) (fun hc => ?_) (fun hc => ?_)
              · replace hc := eq_of_beq hc
                rw [if_pos hc] at h
                have hc52 := hc
                clear hc
                refine WL.pure 8 11 [9, 57, 60] (L' := [(9, .slice AR290 t27.1.length cR290), (57, .bool true), (60, .bool (t27.2 == 0))]) (by kernel_rfl) (by decide) ?_
                refine WL.split 60 (b := (t27.2 == 0)) (by kernel_rfl) (fun hc => ?_) (fun hc => ?_)
                · replace hc := eq_of_beq hc
                  rw [if_pos hc] at h
                  have hc53 := hc
                  clear hc
                  refine WL.pure 11 17 [66] (L' := [(66, .bool true)]) (by kernel_rfl) (by decide) ?_
                  rw [Option.bind_eq_some_iff] at h
                  obtain ⟨t54, ht55, h⟩ := h
                  refine WL.op (op := .call { callee := (.value (.func 25)), args := #[], argTypes := #[] }) (ty := 4) (d := some 67) (g := some (16, true)) (by kernel_rfl) (by kernel_rfl) (by kernel_rfl) (Does.call (f := 25) (args := []) (by kernel_rfl) (fun W hI => (grapevinelaw20_awake_calls HT k   t54 ht55 hI))) ?_
                  rintro _ _ _ ⟨rfl, rfl, rfl⟩
                  refine WL.rest 18 [6] (L' := [(6, .bool t54)]) (by kernel_rfl) ?_
                  refine QP.dropAt 3 ?_
                  refine QP.dropAt 2 ?_
                  refine QP.dropAt 1 ?_
                  refine QP.dropAt 0 ?_
                  refine QP.pick [6] ?_
                  exact QP.meet ⟨_, Option.some.inj h, rfl, rfl, rfl⟩
                · replace hc := ne_of_beq_false hc
                  rw [if_neg hc] at h
                  have hc53 := hc
                  clear hc
                  refine WL.pure 11 17 [66] (L' := [(66, .bool ((t27.1.length : Int) == 0))]) (by kernel_rfl) (by decide) ?_
                  refine WL.split 66 (b := ((t27.1.length : Int) == 0)) (by kernel_rfl) (fun hc => ?_) (fun hc => ?_)
                  · replace hc := eq_of_beq hc
                    rw [if_pos hc] at h
                    have hc58 := hc
                    clear hc
                    rw [Option.bind_eq_some_iff] at h
                    obtain ⟨t59, ht60, h⟩ := h
                    refine WL.op (op := .call { callee := (.value (.func 25)), args := #[], argTypes := #[] }) (ty := 4) (d := some 67) (g := some (16, true)) (by kernel_rfl) (by kernel_rfl) (by kernel_rfl) (Does.call (f := 25) (args := []) (by kernel_rfl) (fun W hI => (grapevinelaw20_awake_calls HT k   t59 ht60 hI))) ?_
                    rintro _ _ _ ⟨rfl, rfl, rfl⟩
                    refine WL.rest 18 [6] (L' := [(6, .bool t59)]) (by kernel_rfl) ?_
                    refine QP.dropAt 3 ?_
                    refine QP.dropAt 2 ?_
                    refine QP.dropAt 1 ?_
                    refine QP.dropAt 0 ?_
                    refine QP.pick [6] ?_
                    exact QP.meet ⟨_, Option.some.inj h, rfl, rfl, rfl⟩
                  · replace hc := ne_of_beq_false hc
                    rw [if_neg hc] at h
                    have hc58 := hc
                    clear hc
                    refine WL.rest 17 [6] (L' := [(6, .bool false)]) (by kernel_rfl) ?_
                    refine QP.dropAt 3 ?_
                    refine QP.dropAt 2 ?_
                    refine QP.dropAt 1 ?_
                    refine QP.dropAt 0 ?_
                    refine QP.pick [6] ?_
                    exact QP.meet ⟨_, Option.some.inj h, rfl, rfl, rfl⟩
              · replace hc := ne_of_beq_false hc
                rw [if_neg hc] at h
                have hc52 := hc
                clear hc
                refine WL.rest 8 [6] (L' := [(6, .bool false)]) (by kernel_rfl) ?_
                refine QP.dropAt 3 ?_
                refine QP.dropAt 2 ?_
                refine QP.dropAt 1 ?_
                refine QP.dropAt 0 ?_
                refine QP.pick [6] ?_
                exact QP.meet ⟨_, Option.some.inj h, rfl, rfl, rfl⟩
          · rintro _ _ _ ⟨s39, rfl, rfl, rfl, rfl⟩
            clear h
            replace h := hk40
            refine WP.ret ?_
            refine QP.thenR ?_
            obtain rfl := Option.some.inj h
            exact QP.returned [6] [.bool s39] _ (by kernel_rfl) (by kernel_rfl) (by kernel_rfl) (fun W hI => ⟨_, _, _, rfl, ⟨rfl, rfl, rfl⟩, hI⟩)
        · replace hc := (Bool.eq_false_iff.1 hc)
          rw [if_neg hc] at h
          have hc38 := hc
          clear hc
          refine WP.skip ?_
          refine QP.next ?_
          refine WP.pick [2, 3, 4, 7, 9, 12] ?_
          refine WP.seqR ?_
          refine WL.pure 0 3 [3, 4, 7, 9, 12, 70, 72] (L' := [(3, .pointer (some ⟨b1, 0, none⟩)), (4, .pointer (some ⟨b2, 0, none⟩)), (7, .slice AR250 t23.1.length cR250), (9, .slice AR290 t27.1.length cR290), (12, .int .i64 t31.2), (70, .slice AR250 t23.1.length cR250), (72, .int .i64 (IntKind.i64.wrap ((IntKind.i64.wrap (1 + t19)) + 1)))]) (by kernel_rfl) (by decide) ?_
          rw [Option.bind_eq_some_iff] at h
          obtain ⟨t63, ht64, h⟩ := h
          refine WL.op (op := .call { callee := (.value (.func 34)), args := #[(.tmp 70), (.tmp 72)], argTypes := #[22, 3] }) (ty := 64) (d := some 73) (g := none) (by kernel_rfl) (by kernel_rfl) (by kernel_rfl) (Does.call (Φ := fun v' G' Γ' => ∃ (AR650_0 : Option Addr), ∃ (cR650_0 : Nat), ∃ (CR650_0 : Chunk), ∃ (AR650_1 : Option Addr), ∃ (cR650_1 : Nat), ∃ (CR650_1 : Chunk), ∃ (AR650_2 : Option Addr), ∃ (cR650_2 : Nat), ∃ (CR650_2 : Chunk), v' = .tuple #[.agg #[.int .i64 t63.1.f0, .int .i64 t63.1.f1, .int .i64 t63.1.f2, .slice AR650_0 t63.1.f3.length cR650_0, .slice AR650_1 t63.1.f4.length cR650_1, .slice AR650_2 t63.1.f5.length cR650_2], .int .i64 t63.2] ∧ Ow (kInt .i64) G AR650_0 cR650_0 t63.1.f3 CR650_0 ∧ Ow (kInt .i64) G AR650_1 cR650_1 t63.1.f4 CR650_1 ∧ Ow k39 G AR650_2 cR650_2 t63.1.f5 CR650_2 ∧ G = G' ∧ CR650_0 :: CR650_1 :: CR650_2 :: CR290 :: CR250 :: [(b2, .cells #[.int .i64 a1.f0, .int .i64 a1.f1, .int .i64 a1.f2, .slice Aa1_f3 a1.f3.length ca1_f3, .slice Aa1_f4 a1.f4.length ca1_f4, .slice Aa1_f5 a1.f5.length ca1_f5] 54 (0, 0))] :: [(b1, .cells #[.int .i64 a0.f0, .int .i64 a0.f1, .int .i64 a0.f2, .slice Aa0_f3 a0.f3.length ca0_f3, .slice Aa0_f4 a0.f4.length ca0_f4, .slice Aa0_f5 a0.f5.length ca0_f5] 54 (0, 0))] :: Γ = Γ') (f := 34) (args := [.slice AR250 t23.1.length cR250, .int .i64 (IntKind.i64.wrap ((IntKind.i64.wrap (1 + t19)) + 1))]) (by kernel_rfl) (fun W hI => (Calls.lendN (Φ := fun v' N => ∃ (AR650_0 : Option Addr), ∃ (cR650_0 : Nat), ∃ (CR650_0 : Chunk), ∃ (AR650_1 : Option Addr), ∃ (cR650_1 : Nat), ∃ (CR650_1 : Chunk), ∃ (AR650_2 : Option Addr), ∃ (cR650_2 : Nat), ∃ (CR650_2 : Chunk), v' = .tuple #[.agg #[.int .i64 t63.1.f0, .int .i64 t63.1.f1, .int .i64 t63.1.f2, .slice AR650_0 t63.1.f3.length cR650_0, .slice AR650_1 t63.1.f4.length cR650_1, .slice AR650_2 t63.1.f5.length cR650_2], .int .i64 t63.2] ∧ Ow (kInt .i64) G AR650_0 cR650_0 t63.1.f3 CR650_0 ∧ Ow (kInt .i64) G AR650_1 cR650_1 t63.1.f4 CR650_1 ∧ Ow k39 G AR650_2 cR650_2 t63.1.f5 CR650_2 ∧ N = [CR650_0, CR650_1, CR650_2]) (H := []) (i := 1) rfl hI (fun _ e l67 nl67 hI => by subst e; exact (((talk_Read_calls (HT.mono l67) k t23.1 (IntKind.i64.wrap ((IntKind.i64.wrap (1 + t19)) + 1)) AR250 cR250 (HR250.rdN l67 nl67) t63 ht64 hI)).mono fun _ _ hr => by obtain ⟨_, _, _, rfl, hd, hI⟩ := hr; obtain ⟨AR650_0, cR650_0, CR650_0, AR650_1, cR650_1, CR650_1, AR650_2, cR650_2, CR650_2, rfl, HR650_0, HR650_1, HR650_2, rfl, rfl⟩ := hd; exact ⟨_, _, _, rfl, ⟨[CR650_0, CR650_1, CR650_2], ⟨AR650_0, cR650_0, CR650_0, AR650_1, cR650_1, CR650_1, AR650_2, cR650_2, CR650_2, rfl, (HR650_0.flat (kInt_flat _)), (HR650_1.flat (kInt_flat _)), (HR650_2.flat (kFlat_flat _ _ _ _)), rfl⟩, rfl, rfl⟩, hI⟩))).mono fun _ _ hr => by obtain ⟨_, _, _, rfl, ⟨_, hd, rfl, rfl⟩, hI⟩ := hr; obtain ⟨AR650_0, cR650_0, CR650_0, AR650_1, cR650_1, CR650_1, AR650_2, cR650_2, CR650_2, rfl, HR650_0, HR650_1, HR650_2, rfl⟩ := hd; exact ⟨_, _, _, rfl, ⟨AR650_0, cR650_0, CR650_0, AR650_1, cR650_1, CR650_1, AR650_2, cR650_2, CR650_2, rfl, HR650_0, HR650_1, HR650_2, rfl, rfl⟩, hI⟩)) ?_
          rintro _ _ _ ⟨AR650_0, cR650_0, CR650_0, AR650_1, cR650_1, CR650_1, AR650_2, cR650_2, CR650_2, rfl, HR650_0, HR650_1, HR650_2, rfl, rfl⟩
          refine WL.pure 4 7 [3, 4, 7, 9, 12, 74, 75] (L' := [(3, .pointer (some ⟨b1, 0, none⟩)), (4, .pointer (some ⟨b2, 0, none⟩)), (7, .slice AR250 t23.1.length cR250), (9, .slice AR290 t27.1.length cR290), (12, .int .i64 t31.2), (74, .agg #[.int .i64 t63.1.f0, .int .i64 t63.1.f1, .int .i64 t63.1.f2, .slice AR650_0 t63.1.f3.length cR650_0, .slice AR650_1 t63.1.f4.length cR650_1, .slice AR650_2 t63.1.f5.length cR650_2]), (75, .int .i64 t63.2)]) (by kernel_rfl) (by decide) ?_
          refine WL.op (op := .alloc 54) (ty := 0) (d := some 13) (g := none) (by kernel_rfl) (by kernel_rfl) (by kernel_rfl) (Does.new (o := .cells #[.int .i64 0, .int .i64 0, .int .i64 0, .slice none 0 0, .slice none 0 0, .slice none 0 0] 54 (0, 0)) (v := fun r => .pointer (some ⟨r, 0, none⟩)) (fun r => by kernel_rfl)) ?_
          rintro _ _ _ ⟨b68, rfl, rfl, rfl⟩
          refine WL.op (op := .store 54 (.tmp 13) (.tmp 74)) (ty := 0) (d := none) (g := none) (by kernel_rfl) (by kernel_rfl) (by kernel_rfl) (Does.store_box (i := 0) (b := b68) (o := 0) (v := .agg #[.int .i64 t63.1.f0, .int .i64 t63.1.f1, .int .i64 t63.1.f2, .slice AR650_0 t63.1.f3.length cR650_0, .slice AR650_1 t63.1.f4.length cR650_1, .slice AR650_2 t63.1.f5.length cR650_2]) (by rfl) sz54 (by kernel_rfl) (by kernel_rfl) (by kernel_rfl) (Free.zero _) (Nat.le_of_ble_eq_true rfl) (cells' := #[.int .i64 t63.1.f0, .int .i64 t63.1.f1, .int .i64 t63.1.f2, .slice AR650_0 t63.1.f3.length cR650_0, .slice AR650_1 t63.1.f4.length cR650_1, .slice AR650_2 t63.1.f5.length cR650_2]) (by kernel_rfl)) ?_
          rintro _ _ _ ⟨rfl, rfl, rfl⟩
          refine WL.restQ 9 [3, 4, 7, 9, 12, 14] (L' := [(3, .pointer (some ⟨b1, 0, none⟩)), (4, .pointer (some ⟨b2, 0, none⟩)), (7, .slice AR250 t23.1.length cR250), (9, .slice AR290 t27.1.length cR290), (12, .int .i64 t31.2), (14, .int .i64 t63.2)]) (by kernel_rfl) ?_
          refine WP.dropAt 3 ?_
          refine WP.dropAt 2 ?_
          refine WP.dropAt 1 ?_
          refine WP.dropAt 0 ?_
          rw [Option.bind_eq_some_iff] at h
          obtain ⟨os69, h, hk70⟩ := h
          refine WP.cut (fun L' G' Γ' => ∃ s69 : Bool, s69 = os69 ∧ L' = [(6, .bool s69)] ∧ G = G' ∧ Γ = Γ') ?_ ?_
          · clear hk70
            skip
            refine WP.any (N := 19) (S := [⟨some 76, [7], []⟩, ⟨some 77, [9], []⟩, ⟨some 78, [76, 77], [0, 1]⟩, ⟨some 79, [3], []⟩, ⟨some 80, [4], []⟩, ⟨some 81, [79, 80], [2, 3, 4]⟩, ⟨some 82, [78, 81], [2, 5]⟩, ⟨some 83, [82], [5, 6]⟩, ⟨some 84, [12, 83], [7]⟩, ⟨some 85, [83, 84], [7, 8]⟩, ⟨some 86, [83, 85], [7, 9]⟩, ⟨some 87, [86], [7, 10]⟩, ⟨some 88, [14, 87], [11]⟩, ⟨some 89, [87, 88], [11, 12]⟩, ⟨some 90, [87, 89], [11, 13]⟩, ⟨some 91, [90], [11, 14]⟩, ⟨some 92, [91], [15]⟩, ⟨some 93, [91, 92], [15, 16]⟩, ⟨some 6, [93], [0, 1, 2, 3, 4, 5, 6, 7, 8, 9, 10, 11, 12, 13, 14, 15, 16, 17]⟩]) (kw := 19) (G0 := G) (Γ0 := CR290 :: CR250 :: [(b2, .cells #[.int .i64 a1.f0, .int .i64 a1.f1, .int .i64 a1.f2, .slice Aa1_f3 a1.f3.length ca1_f3, .slice Aa1_f4 a1.f4.length ca1_f4, .slice Aa1_f5 a1.f5.length ca1_f5] 54 (0, 0))] :: [(b1, .cells #[.int .i64 a0.f0, .int .i64 a0.f1, .int .i64 a0.f2, .slice Aa0_f3 a0.f3.length ca0_f3, .slice Aa0_f4 a0.f4.length ca0_f4, .slice Aa0_f5 a0.f5.length ca0_f5] 54 (0, 0))] :: Γ) mo (by kernel_rfl) (fun hS => ?_)
            refine WA.pure [0, 1] [3, 4, 12, 14, 76, 77] (m := 17) (b' := 3) (L' := [(3, .pointer (some ⟨b1, 0, none⟩)), (4, .pointer (some ⟨b2, 0, none⟩)), (12, .int .i64 t31.2), (14, .int .i64 t63.2), (76, .slice AR250 t23.1.length cR250), (77, .slice AR290 t27.1.length cR290)]) (by kernel_rfl) (NoPanic.then (NoPanic.body)) Under.refl hS (by kernel_rfl) ?_
            refine WA.tellD [] (i := 3) (m := 16) (b' := 11) (by kernel_rfl) (NoPanic.then (NoPanic.body)) Under.refl hS (by kernel_rfl) (op := .load 54 (.tmp 3)) (ty := 54) (d := some 79) (g := none) (by kernel_rfl) (by kernel_rfl) (by kernel_rfl) (Tells.load_box (i := 3) (b := b1) (o := 0) (agg := true) (by rfl) ag54 (by kernel_rfl) (fun h => by cases h) (Nat.le_of_ble_eq_true rfl) (v := .agg #[.int .i64 a0.f0, .int .i64 a0.f1, .int .i64 a0.f2, .slice Aa0_f3 a0.f3.length ca0_f3, .slice Aa0_f4 a0.f4.length ca0_f4, .slice Aa0_f5 a0.f5.length ca0_f5]) (by kernel_rfl)) ?_
            refine WA.tellD [] (i := 4) (m := 15) (b' := 27) (by kernel_rfl) (NoPanic.then (NoPanic.body)) Under.refl hS (by kernel_rfl) (op := .load 54 (.tmp 4)) (ty := 54) (d := some 80) (g := none) (by kernel_rfl) (by kernel_rfl) (by kernel_rfl) (Tells.load_box (i := 2) (b := b2) (o := 0) (agg := true) (by rfl) ag54 (by kernel_rfl) (fun h => by cases h) (Nat.le_of_ble_eq_true rfl) (v := .agg #[.int .i64 a1.f0, .int .i64 a1.f1, .int .i64 a1.f2, .slice Aa1_f3 a1.f3.length ca1_f3, .slice Aa1_f4 a1.f4.length ca1_f4, .slice Aa1_f5 a1.f5.length ca1_f5]) (by kernel_rfl)) ?_
            rw [Option.bind_eq_some_iff] at h
            obtain ⟨t71, ht72, h⟩ := h
            refine WA.op (i := 2) (m := 14) (b' := 31) (by kernel_rfl) hS (by kernel_rfl) (op := .call { callee := (.value (.func 22)), args := #[(.tmp 76), (.tmp 77)], argTypes := #[22, 22] }) (ty := 4) (d := some 78) (g := none) (by kernel_rfl) (by kernel_rfl) (by kernel_rfl) (Does.call (Φ := fun v' G' Γ' => v' = .bool t71 ∧ G = G' ∧ CR290 :: CR250 :: [(b2, .cells #[.int .i64 a1.f0, .int .i64 a1.f1, .int .i64 a1.f2, .slice Aa1_f3 a1.f3.length ca1_f3, .slice Aa1_f4 a1.f4.length ca1_f4, .slice Aa1_f5 a1.f5.length ca1_f5] 54 (0, 0))] :: [(b1, .cells #[.int .i64 a0.f0, .int .i64 a0.f1, .int .i64 a0.f2, .slice Aa0_f3 a0.f3.length ca0_f3, .slice Aa0_f4 a0.f4.length ca0_f4, .slice Aa0_f5 a0.f5.length ca0_f5] 54 (0, 0))] :: Γ = Γ') (f := 22) (args := [.slice AR250 t23.1.length cR250, .slice AR290 t27.1.length cR290]) (by kernel_rfl) (fun W hI => (Calls.lendN (Φ := fun v' N => v' = .bool t71 ∧ N = []) (H := []) (i := 1) rfl hI (fun _ e l75 nl75 hI => by subst e; exact Calls.lendN (Φ := fun v' N => v' = .bool t71 ∧ N = []) (H := []) (i := 0) rfl hI (fun _ e l76 nl76 hI => by subst e; exact (((grapevinelaw0_SameBytes_calls k t23.1 t27.1 AR250 cR250 ((HR250.rdN l75 nl75).mono l76) AR290 cR290 ((HR290.mono l75).rdN l76 nl76) t71 ht72 hI)).mono fun _ _ hr => by obtain ⟨_, _, _, rfl, hd, hI⟩ := hr; obtain ⟨rfl, rfl, rfl⟩ := hd; exact ⟨_, _, _, rfl, ⟨[], ⟨rfl, rfl⟩, rfl, rfl⟩, hI⟩)))).mono fun _ _ hr => by obtain ⟨_, _, _, rfl, ⟨_, hd, rfl, rfl⟩, hI⟩ := hr; obtain ⟨rfl, rfl⟩ := hd; exact ⟨_, _, _, rfl, ⟨rfl, rfl, rfl⟩, hI⟩)) ?_
            rintro _ _ _ ⟨rfl, rfl, rfl⟩
            refine ⟨_, _, Under.refl, Under.refl, ?_⟩
            rw [Option.bind_eq_some_iff] at h
            obtain ⟨t77, ht78, h⟩ := h
            refine WA.op (i := 5) (m := 13) (b' := 63) (by kernel_rfl) hS (by kernel_rfl) (op := .call { callee := (.value (.func 31)), args := #[(.tmp 79), (.tmp 80)], argTypes := #[54, 54] }) (ty := 4) (d := some 81) (g := none) (by kernel_rfl) (by kernel_rfl) (by kernel_rfl) (Does.call (f := 31) (args := [.agg #[.int .i64 a0.f0, .int .i64 a0.f1, .int .i64 a0.f2, .slice Aa0_f3 a0.f3.length ca0_f3, .slice Aa0_f4 a0.f4.length ca0_f4, .slice Aa0_f5 a0.f5.length ca0_f5], .agg #[.int .i64 a1.f0, .int .i64 a1.f1, .int .i64 a1.f2, .slice Aa1_f3 a1.f3.length ca1_f3, .slice Aa1_f4 a1.f4.length ca1_f4, .slice Aa1_f5 a1.f5.length ca1_f5]]) (by kernel_rfl) (fun W hI => (talk_Same_calls k a0 a1 Aa0_f3 ca0_f3 Ha0_f3 Aa0_f4 ca0_f4 Ha0_f4 Aa0_f5 ca0_f5 Ha0_f5 Aa1_f3 ca1_f3 Ha1_f3 Aa1_f4 ca1_f4 Ha1_f4 Aa1_f5 ca1_f5 Ha1_f5 t77 ht78 hI))) ?_
            rintro _ _ _ ⟨rfl, rfl, rfl⟩
            refine ⟨_, _, Under.refl, Under.refl, ?_⟩
            refine WA.pure [6, 7] [12, 14, 83] (m := 11) (b' := 255) (L' := [(12, .int .i64 t31.2), (14, .int .i64 t63.2), (83, .bool (t71 == t77))]) (by kernel_rfl) (NoPanic.then (NoPanic.body)) Under.refl hS (by kernel_rfl) ?_
            refine WA.split 83 (b := (t71 == t77)) (by kernel_rfl) (fun hc => ?_) (fun hc => ?_)
            · replace hc := hc
              rw [if_pos hc] at h
              have hc81 := hc
              clear hc
              refine WA.pure [8, 9, 10, 11] [14, 87] (m := 7) (b' := 4095) (L' := [(14, .int .i64 t63.2), (87, .bool (t31.2 == 2))]) (by kernel_rfl) (NoPanic.then (NoPanic.body)) Under.refl hS (by kernel_rfl) ?_
              refine WA.split 87 (b := (t31.2 == 2)) (by kernel_rfl) (fun hc => ?_) (fun hc => ?_)
              · replace hc := eq_of_beq hc
                rw [if_pos hc] at h
                have hc82 := hc
                clear hc
                refine WA.pure [12, 13, 14, 15] [91] (m := 3) (b' := 65535) (L' := [(91, .bool (t63.2 == 12))]) (by kernel_rfl) (NoPanic.then (NoPanic.body)) Under.refl hS (by kernel_rfl) ?_
                refine WA.split 91 (b := (t63.2 == 12)) (by kernel_rfl) (fun hc => ?_) (fun hc => ?_)
                · replace hc := eq_of_beq hc
                  rw [if_pos hc] at h
                  have hc83 := hc
                  clear hc
                  rw [Option.bind_eq_some_iff] at h
                  obtain ⟨t84, ht85, h⟩ := h
                  refine WA.op (i := 16) (m := 2) (b' := 131071) (by kernel_rfl) hS (by kernel_rfl) (op := .call { callee := (.value (.func 25)), args := #[], argTypes := #[] }) (ty := 4) (d := some 92) (g := some (15, true)) (by kernel_rfl) (by kernel_rfl) (by kernel_rfl) (Does.call (f := 25) (args := []) (by kernel_rfl) (fun W hI => (grapevinelaw20_awake_calls HT k   t84 ht85 hI))) ?_
                  rintro _ _ _ ⟨rfl, rfl, rfl⟩
                  refine ⟨_, _, Under.refl, Under.refl, ?_⟩
                  refine WA.pure [17, 18] [6] (m := 0) (b' := 524287) (L' := [(6, .bool t84)]) (by kernel_rfl) (NoPanic.then (NoPanic.body)) Under.refl hS (by kernel_rfl) ?_
                  refine WA.done hS (by kernel_rfl) ?_
                  refine QP.pick [6] ?_
                  refine QP.dropAt 3 ?_
                  refine QP.dropAt 2 ?_
                  refine QP.dropAt 1 ?_
                  refine QP.dropAt 0 ?_
                  refine QP.pick [6] ?_
                  exact QP.meet ⟨_, Option.some.inj h, rfl, rfl, rfl⟩
                · replace hc := ne_of_beq_false hc
                  rw [if_neg hc] at h
                  have hc83 := hc
                  clear hc
                  refine WA.pure [16, 17, 18] [6] (m := 0) (b' := 524287) (L' := [(6, .bool false)]) (by kernel_rfl) (NoPanic.then (NoPanic.body)) Under.refl hS (by kernel_rfl) ?_
                  refine WA.done hS (by kernel_rfl) ?_
                  refine QP.pick [6] ?_
                  refine QP.dropAt 3 ?_
                  refine QP.dropAt 2 ?_
                  refine QP.dropAt 1 ?_
                  refine QP.dropAt 0 ?_
                  refine QP.pick [6] ?_
                  exact QP.meet ⟨_, Option.some.inj h, rfl, rfl, rfl⟩
              · replace hc := ne_of_beq_false hc
                rw [if_neg hc] at h
                have hc82 := hc
                clear hc
                refine WA.pure [12, 13, 14, 15, 16, 17, 18] [6] (m := 0) (b' := 524287) (L' := [(6, .bool false)]) (by kernel_rfl) (NoPanic.then (NoPanic.body)) Under.refl hS (by kernel_rfl) ?_
                refine WA.done hS (by kernel_rfl) ?_
                refine QP.pick [6] ?_
                refine QP.dropAt 3 ?_
                refine QP.dropAt 2 ?_
                refine QP.dropAt 1 ?_
                refine QP.dropAt 0 ?_
                refine QP.pick [6] ?_
                exact QP.meet ⟨_, Option.some.inj h, rfl, rfl, rfl⟩
            · replace hc := (Bool.eq_false_iff.1 hc)
              rw [if_neg hc] at h
              have hc81 := hc
              clear hc
              refine WA.pure [8, 9, 10, 11, 12, 13, 14, 15, 16, 17, 18] [6] (m := 0) (b' := 524287) (L' := [(6, .bool false)]) (by kernel_rfl) (NoPanic.then (NoPanic.body)) Under.refl hS (by kernel_rfl) ?_
              refine WA.done hS (by kernel_rfl) ?_
              refine QP.pick [6] ?_
              refine QP.dropAt 3 ?_
              refine QP.dropAt 2 ?_
              refine QP.dropAt 1 ?_
              refine QP.dropAt 0 ?_
              refine QP.pick [6] ?_
              exact QP.meet ⟨_, Option.some.inj h, rfl, rfl, rfl⟩
          · rintro _ _ _ ⟨s69, rfl, rfl, rfl, rfl⟩
            clear h
            replace h := hk70
            refine WP.ret ?_
            obtain rfl := Option.some.inj h
            exact QP.returned [6] [.bool s69] _ (by kernel_rfl) (by kernel_rfl) (by kernel_rfl) (fun W hI => ⟨_, _, _, rfl, ⟨rfl, rfl, rfl⟩, hI⟩)
/-- The plain law. -/
def TalkUnlike_Pure : Prop := ∀ (a0 : T54) (a1 : T54) (a2 : Int), ((Lit.int .i64 a0.f0).wf = true ∧ (Lit.int .i64 a0.f1).wf = true ∧ (Lit.int .i64 a0.f2).wf = true ∧ (a0.f3.length ≤ maxLen ∧ ∀ z0 ∈ a0.f3, (Lit.int .i64 z0).wf = true) ∧ (a0.f4.length ≤ maxLen ∧ ∀ z0 ∈ a0.f4, (Lit.int .i64 z0).wf = true) ∧ (a0.f5.length ≤ maxLen ∧ ∀ z0 ∈ a0.f5, ((Lit.int .i64 z0.f0).wf = true ∧ (Lit.int .i64 z0.f1).wf = true ∧ (Lit.int .i64 z0.f2).wf = true ∧ (Lit.int .i64 z0.f3).wf = true ∧ z0.f4.size ≤ maxLen))) → ((Lit.int .i64 a1.f0).wf = true ∧ (Lit.int .i64 a1.f1).wf = true ∧ (Lit.int .i64 a1.f2).wf = true ∧ (a1.f3.length ≤ maxLen ∧ ∀ z0 ∈ a1.f3, (Lit.int .i64 z0).wf = true) ∧ (a1.f4.length ≤ maxLen ∧ ∀ z0 ∈ a1.f4, (Lit.int .i64 z0).wf = true) ∧ (a1.f5.length ≤ maxLen ∧ ∀ z0 ∈ a1.f5, ((Lit.int .i64 z0.f0).wf = true ∧ (Lit.int .i64 z0.f1).wf = true ∧ (Lit.int .i64 z0.f2).wf = true ∧ (Lit.int .i64 z0.f3).wf = true ∧ z0.f4.size ≤ maxLen))) → (Lit.int .i64 a2).wf = true → ∃ k, grapevinelaw20_TalkUnlike k a0 a1 a2 = some true
end Go.Proofs.YtfocilpnbiciaaaDoor.Gf
