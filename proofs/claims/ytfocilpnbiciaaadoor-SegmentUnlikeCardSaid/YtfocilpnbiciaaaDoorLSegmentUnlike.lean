/- Walks of Go functions: what each tells, as a plain Lean function, and that the Go code comes to it. Written by gg.py of this repo. -/
import Derived.Test.YtfocilpnbiciaaaDoorT
import Derived.Test.YtfocilpnbiciaaaDoorF1
import Derived.Test.YtfocilpnbiciaaaDoorF6
namespace Go.Proofs.YtfocilpnbiciaaaDoor.Gf
open Go Go.Gg
set_option maxRecDepth 100000
set_option linter.unusedVariables false
set_option linter.unusedSimpArgs false

/-! ### grapevine/grapevinelaw8.SegmentUnlike: function 5 -/
def grapevinelaw8_SegmentUnlike (k : Nat) (a0 : T41) (a1 : T41) (a2 : Int) : Option Bool := (((grapevinelaw8_great a0).bind fun t5 => (if t5 = true then some true else ((grapevinelaw8_great a1).bind fun t10 => some t10))).bind fun s3 => (if s3 = true then ((grapevinelaw8_awake k ).bind fun t15 => some t15) else ((grapevinelaw0_Low a2 8).bind fun t19 => ((segment_Lay k a0).bind fun t23 => ((segment_Lay k a1).bind fun t27 => ((if ¬ t23.2 = 0 then some true else some (t27.2 != 0)).bind fun s31 => (if s31 = true then ((if t23.2 = 0 then (if t27.2 = 0 then ((grapevinelaw8_awake k ).bind fun t39 => some t39) else (if (t27.1.length : Int) = 0 then ((grapevinelaw8_awake k ).bind fun t44 => some t44) else some false)) else (if (t23.1.length : Int) = 0 then (if t27.2 = 0 then ((grapevinelaw8_awake k ).bind fun t50 => some t50) else (if (t27.1.length : Int) = 0 then ((grapevinelaw8_awake k ).bind fun t55 => some t55) else some false)) else some false)).bind fun s35 => some s35) else ((grapevinelaw0_SameBytes k t23.1 t27.1).bind fun t59 => ((segment_Same k a0 a1).bind fun t65 => (if (!(t59 == t65)) = true then some false else ((if 0 ≤ (IntKind.i64.wrap (1 + t19)) ∧ (IntKind.i64.wrap (1 + t19)) ≤ (IntKind.i64.wrap (1 + t19)) ∧ (IntKind.i64.wrap (1 + t19)) ≤ 1073741824 then (if 0 ≤ (IntKind.i64.wrap (1 + t19)) ∧ (IntKind.i64.wrap (1 + t19)) ≤ (IntKind.i64.wrap (1 + t19)) ∧ (IntKind.i64.wrap (1 + t19)) ≤ 1073741824 then ((segment_Lay k (⟨1, (List.replicate (IntKind.i64.wrap (1 + t19)).toNat (0 : Int)), (List.replicate (IntKind.i64.wrap (1 + t19)).toNat (0 : Int)), 0, 0, 0, 0, (⟨#[]⟩ : ByteArray)⟩ : T41)).bind fun t78 => some (t78.1, t78.2)) else none) else none).bind fun s70 => (if ([] : List Int).length + s70.1.length ≤ 1073741824 then (if (([] : List Int) ++ s70.1).length + t23.1.length ≤ 1073741824 then ((segment_Read k ((([] : List Int) ++ s70.1) ++ t23.1) (IntKind.i64.wrap (1 + t19))).bind fun t88 => (((segment_May k a0 (IntKind.i64.wrap (1 + t19))).bind fun t95 => (if t95 = true then some (a0.f0 != 1) else some false)).bind fun s93 => ((if s70.2 = 0 then (if s93 = true then (if (t88.1.length : Int) = 2 then (if 0 ≤ (1 : Int) ∧ (1 : Int) < (t88.1.length : Int) then ((segment_Same k (t88.1.getD (1 : Int).toNat z41) a0).bind fun t117 => (if t117 = true then (if t88.2 = (IntKind.i64.wrap ((s70.1.length : Int) + (t23.1.length : Int))) then ((grapevinelaw8_awake k ).bind fun t123 => some (t123, a0)) else (if (!s93) = true then (if (t88.1.length : Int) = 1 then (if t88.2 = (s70.1.length : Int) then ((grapevinelaw8_awake k ).bind fun t130 => some (t130, a0)) else some (false, a0)) else some (false, a0)) else some (false, a0))) else (if (!s93) = true then (if (t88.1.length : Int) = 1 then (if t88.2 = (s70.1.length : Int) then ((grapevinelaw8_awake k ).bind fun t137 => some (t137, a0)) else some (false, a0)) else some (false, a0)) else some (false, a0)))) else none) else (if (!s93) = true then (if (t88.1.length : Int) = 1 then (if t88.2 = (s70.1.length : Int) then ((grapevinelaw8_awake k ).bind fun t144 => some (t144, a0)) else some (false, a0)) else some (false, a0)) else some (false, a0))) else (if (!s93) = true then (if (t88.1.length : Int) = 1 then (if t88.2 = (s70.1.length : Int) then ((grapevinelaw8_awake k ).bind fun t151 => some (t151, a0)) else some (false, a0)) else some (false, a0)) else some (false, a0))) else some (false, a0)).bind fun s100 => some s100.1))) else none) else none))))))))))))
set_option maxHeartbeats 4000000 in
theorem grapevinelaw8_SegmentUnlike_calls {B : World} {G : GMap} {Γ : List Chunk} {W : World} (HT : Tabs B G) (k : Nat) (a0 : T41) (a1 : T41) (a2 : Int) (Aa0_f1 : Option Addr) (ca0_f1 : Nat) (Ha0_f1 : Rd (kInt .i64) G Aa0_f1 ca0_f1 a0.f1) (Aa0_f2 : Option Addr) (ca0_f2 : Nat) (Ha0_f2 : Rd (kInt .i64) G Aa0_f2 ca0_f2 a0.f2) (Aa1_f1 : Option Addr) (ca1_f1 : Nat) (Ha1_f1 : Rd (kInt .i64) G Aa1_f1 ca1_f1 a1.f1) (Aa1_f2 : Option Addr) (ca1_f2 : Nat) (Ha1_f2 : Rd (kInt .i64) G Aa1_f2 ca1_f2 a1.f2) (r : Bool) (h : grapevinelaw8_SegmentUnlike k a0 a1 a2 = some r) (hI : Inv B G (Γ) W) :
    Calls Tryd.prog 5 [.agg #[.int .i64 a0.f0, .slice Aa0_f1 a0.f1.length ca0_f1, .slice Aa0_f2 a0.f2.length ca0_f2, .int .i64 a0.f3, .int .i64 a0.f4, .int .i64 a0.f5, .int .i64 a0.f6, .string a0.f7], .agg #[.int .i64 a1.f0, .slice Aa1_f1 a1.f1.length ca1_f1, .slice Aa1_f2 a1.f2.length ca1_f2, .int .i64 a1.f3, .int .i64 a1.f4, .int .i64 a1.f5, .int .i64 a1.f6, .string a1.f7], .int .i64 a2].toArray W (Ret B (fun v G' Γ' => v = .bool r ∧ G = G' ∧ Γ = Γ')) := by
  refine calls_WP (Γ := Γ) (G := G) (B := B) Tryd.func5 rfl (by kernel_rfl) ?_ hI
  clear hI
  unfold grapevinelaw8_SegmentUnlike at h
  refine WP.seqR ?_
  refine WL.op (op := .box 41 (.tmp 0)) (ty := 0) (d := some 3) (g := none) (by kernel_rfl) (by kernel_rfl) (by kernel_rfl) (Does.new (o := .cells #[.int .i64 a0.f0, .slice Aa0_f1 a0.f1.length ca0_f1, .slice Aa0_f2 a0.f2.length ca0_f2, .int .i64 a0.f3, .int .i64 a0.f4, .int .i64 a0.f5, .int .i64 a0.f6, .string a0.f7] 41 (0, 0)) (v := fun r => .pointer (some ⟨r, 0, none⟩)) (fun r => by kernel_rfl)) ?_
  rintro _ _ _ ⟨b1, rfl, rfl, rfl⟩
  refine WL.op (op := .box 41 (.tmp 1)) (ty := 0) (d := some 4) (g := none) (by kernel_rfl) (by kernel_rfl) (by kernel_rfl) (Does.new (o := .cells #[.int .i64 a1.f0, .slice Aa1_f1 a1.f1.length ca1_f1, .slice Aa1_f2 a1.f2.length ca1_f2, .int .i64 a1.f3, .int .i64 a1.f4, .int .i64 a1.f5, .int .i64 a1.f6, .string a1.f7] 41 (0, 0)) (v := fun r => .pointer (some ⟨r, 0, none⟩)) (fun r => by kernel_rfl)) ?_
  rintro _ _ _ ⟨b2, rfl, rfl, rfl⟩
  refine WL.restQ 2 [2, 3, 4] (L' := [(2, .int .i64 a2), (3, .pointer (some ⟨b1, 0, none⟩)), (4, .pointer (some ⟨b2, 0, none⟩))]) (by kernel_rfl) ?_
  refine WP.seq ?_
  rw [Option.bind_eq_some_iff] at h
  obtain ⟨os3, h, hk4⟩ := h
  refine WP.cut (fun L' G' Γ' => ∃ s3 : Bool, s3 = os3 ∧ L' = [(2, .int .i64 a2), (3, .pointer (some ⟨b1, 0, none⟩)), (4, .pointer (some ⟨b2, 0, none⟩)), (21, .bool s3)] ∧ G = G' ∧ [(b2, .cells #[.int .i64 a1.f0, .slice Aa1_f1 a1.f1.length ca1_f1, .slice Aa1_f2 a1.f2.length ca1_f2, .int .i64 a1.f3, .int .i64 a1.f4, .int .i64 a1.f5, .int .i64 a1.f6, .string a1.f7] 41 (0, 0))] :: [(b1, .cells #[.int .i64 a0.f0, .slice Aa0_f1 a0.f1.length ca0_f1, .slice Aa0_f2 a0.f2.length ca0_f2, .int .i64 a0.f3, .int .i64 a0.f4, .int .i64 a0.f5, .int .i64 a0.f6, .string a0.f7] 41 (0, 0))] :: Γ = Γ') ?_ ?_
  · clear hk4
    refine WP.region ?_
    refine WL.tell (op := .load 41 (.tmp 3)) (ty := 41) (d := some 16) (g := none) (by kernel_rfl) (by kernel_rfl) (by kernel_rfl) (Tells.load_box (i := 1) (b := b1) (o := 0) (agg := true) (by rfl) ag41 (by kernel_rfl) (fun h => by cases h) (Nat.le_of_ble_eq_true rfl) (v := .agg #[.int .i64 a0.f0, .slice Aa0_f1 a0.f1.length ca0_f1, .slice Aa0_f2 a0.f2.length ca0_f2, .int .i64 a0.f3, .int .i64 a0.f4, .int .i64 a0.f5, .int .i64 a0.f6, .string a0.f7]) (by kernel_rfl)) ?_
    rw [Option.bind_eq_some_iff] at h
    obtain ⟨t5, ht6, h⟩ := h
    refine WL.op (op := .call { callee := (.value (.func 17)), args := #[(.tmp 16)], argTypes := #[41] }) (ty := 4) (d := some 17) (g := none) (by kernel_rfl) (by kernel_rfl) (by kernel_rfl) (Does.call (f := 17) (args := [.agg #[.int .i64 a0.f0, .slice Aa0_f1 a0.f1.length ca0_f1, .slice Aa0_f2 a0.f2.length ca0_f2, .int .i64 a0.f3, .int .i64 a0.f4, .int .i64 a0.f5, .int .i64 a0.f6, .string a0.f7]]) (by kernel_rfl) (fun W hI => (grapevinelaw8_great_calls a0 Aa0_f1 ca0_f1 Ha0_f1 Aa0_f2 ca0_f2 Ha0_f2 t5 ht6 hI))) ?_
    rintro _ _ _ ⟨rfl, rfl, rfl⟩
    refine WL.pure 2 3 [2, 3, 4, 18] (L' := [(2, .int .i64 a2), (3, .pointer (some ⟨b1, 0, none⟩)), (4, .pointer (some ⟨b2, 0, none⟩)), (18, .bool t5)]) (by kernel_rfl) (by decide) ?_
    refine WL.split 18 (b := t5) (by kernel_rfl) (fun hc => ?_) (fun hc => ?_)
    · replace hc := hc
      rw [if_pos hc] at h
      have hc9 := hc
      clear hc
      refine WL.rest 3 [2, 3, 4, 21] (L' := [(2, .int .i64 a2), (3, .pointer (some ⟨b1, 0, none⟩)), (4, .pointer (some ⟨b2, 0, none⟩)), (21, .bool true)]) (by kernel_rfl) ?_
      refine QP.pick [2, 3, 4, 21] ?_
      exact QP.meet ⟨_, Option.some.inj h, rfl, rfl, rfl⟩
    · replace hc := (Bool.eq_false_iff.1 hc)
      rw [if_neg hc] at h
      have hc9 := hc
      clear hc
      refine WL.tell (op := .load 41 (.tmp 4)) (ty := 41) (d := some 19) (g := some (2, false)) (by kernel_rfl) (by kernel_rfl) (by kernel_rfl) (Tells.load_box (i := 0) (b := b2) (o := 0) (agg := true) (by rfl) ag41 (by kernel_rfl) (fun h => by cases h) (Nat.le_of_ble_eq_true rfl) (v := .agg #[.int .i64 a1.f0, .slice Aa1_f1 a1.f1.length ca1_f1, .slice Aa1_f2 a1.f2.length ca1_f2, .int .i64 a1.f3, .int .i64 a1.f4, .int .i64 a1.f5, .int .i64 a1.f6, .string a1.f7]) (by kernel_rfl)) ?_
      rw [Option.bind_eq_some_iff] at h
      obtain ⟨t10, ht11, h⟩ := h
      refine WL.op (op := .call { callee := (.value (.func 17)), args := #[(.tmp 19)], argTypes := #[41] }) (ty := 4) (d := some 20) (g := some (2, false)) (by kernel_rfl) (by kernel_rfl) (by kernel_rfl) (Does.call (f := 17) (args := [.agg #[.int .i64 a1.f0, .slice Aa1_f1 a1.f1.length ca1_f1, .slice Aa1_f2 a1.f2.length ca1_f2, .int .i64 a1.f3, .int .i64 a1.f4, .int .i64 a1.f5, .int .i64 a1.f6, .string a1.f7]]) (by kernel_rfl) (fun W hI => (grapevinelaw8_great_calls a1 Aa1_f1 ca1_f1 Ha1_f1 Aa1_f2 ca1_f2 Ha1_f2 t10 ht11 hI))) ?_
      rintro _ _ _ ⟨rfl, rfl, rfl⟩
      refine WL.rest 5 [2, 3, 4, 21] (L' := [(2, .int .i64 a2), (3, .pointer (some ⟨b1, 0, none⟩)), (4, .pointer (some ⟨b2, 0, none⟩)), (21, .bool t10)]) (by kernel_rfl) ?_
      refine QP.pick [2, 3, 4, 21] ?_
      exact QP.meet ⟨_, Option.some.inj h, rfl, rfl, rfl⟩
  · rintro _ _ _ ⟨s3, rfl, rfl, rfl, rfl⟩
    clear h
    replace h := hk4
    refine WP.cond (b := s3) (by kernel_rfl) (fun hc => ?_) (fun hc => ?_)
    · replace hc := hc
      rw [if_pos hc] at h
      have hc14 := hc
      clear hc
      refine WP.seqR ?_
      rw [Option.bind_eq_some_iff] at h
      obtain ⟨t15, ht16, h⟩ := h
      refine WL.op (op := .call { callee := (.value (.func 10)), args := #[], argTypes := #[] }) (ty := 4) (d := some 22) (g := none) (by kernel_rfl) (by kernel_rfl) (by kernel_rfl) (Does.call (f := 10) (args := []) (by kernel_rfl) (fun W hI => (grapevinelaw8_awake_calls HT k   t15 ht16 hI))) ?_
      rintro _ _ _ ⟨rfl, rfl, rfl⟩
      refine WL.restQ 1 [6] (L' := [(6, .bool t15)]) (by kernel_rfl) ?_
      refine WP.dropAt 1 ?_
      refine WP.dropAt 0 ?_
      refine WP.ret ?_
      refine QP.thenR ?_
      obtain rfl := Option.some.inj h
      exact QP.returned [6] [.bool t15] _ (by kernel_rfl) (by kernel_rfl) (by kernel_rfl) (fun W hI => ⟨_, _, _, rfl, ⟨rfl, rfl, rfl⟩, hI⟩)
    · replace hc := (Bool.eq_false_iff.1 hc)
      rw [if_neg hc] at h
      have hc14 := hc
      clear hc
      refine WP.skip ?_
      refine QP.next ?_
      refine WP.pick [2, 3, 4] ?_
      refine WP.seqR ?_
      refine WL.pure 0 1 [2, 3, 4, 23] (L' := [(2, .int .i64 a2), (3, .pointer (some ⟨b1, 0, none⟩)), (4, .pointer (some ⟨b2, 0, none⟩)), (23, .int .i64 a2)]) (by kernel_rfl) (by decide) ?_
      rw [Option.bind_eq_some_iff] at h
      obtain ⟨t19, ht20, h⟩ := h
      refine WL.op (op := .call { callee := (.value (.func 20)), args := #[(.tmp 23), (.const (.int .i64 8))], argTypes := #[3, 3] }) (ty := 3) (d := some 24) (g := none) (by kernel_rfl) (by kernel_rfl) (by kernel_rfl) (Does.call (f := 20) (args := [.int .i64 a2, .int .i64 8]) (by kernel_rfl) (fun W hI => (grapevinelaw0_Low_calls a2 8  t19 ht20 hI))) ?_
      rintro _ _ _ ⟨rfl, rfl, rfl⟩
      refine WL.restQ 2 [2, 3, 4] (L' := [(2, .int .i64 (IntKind.i64.wrap (1 + t19))), (3, .pointer (some ⟨b1, 0, none⟩)), (4, .pointer (some ⟨b2, 0, none⟩))]) (by kernel_rfl) ?_
      refine WP.seqR ?_
      refine WL.tell (op := .load 41 (.tmp 3)) (ty := 41) (d := some 27) (g := none) (by kernel_rfl) (by kernel_rfl) (by kernel_rfl) (Tells.load_box (i := 1) (b := b1) (o := 0) (agg := true) (by rfl) ag41 (by kernel_rfl) (fun h => by cases h) (Nat.le_of_ble_eq_true rfl) (v := .agg #[.int .i64 a0.f0, .slice Aa0_f1 a0.f1.length ca0_f1, .slice Aa0_f2 a0.f2.length ca0_f2, .int .i64 a0.f3, .int .i64 a0.f4, .int .i64 a0.f5, .int .i64 a0.f6, .string a0.f7]) (by kernel_rfl)) ?_
      rw [Option.bind_eq_some_iff] at h
      obtain ⟨t23, ht24, h⟩ := h
      refine WL.op (op := .call { callee := (.value (.func 19)), args := #[(.tmp 27)], argTypes := #[41] }) (ty := 44) (d := some 28) (g := none) (by kernel_rfl) (by kernel_rfl) (by kernel_rfl) (Does.call (f := 19) (args := [.agg #[.int .i64 a0.f0, .slice Aa0_f1 a0.f1.length ca0_f1, .slice Aa0_f2 a0.f2.length ca0_f2, .int .i64 a0.f3, .int .i64 a0.f4, .int .i64 a0.f5, .int .i64 a0.f6, .string a0.f7]]) (by kernel_rfl) (fun W hI => (segment_Lay_calls HT k a0 Aa0_f1 ca0_f1 Ha0_f1 Aa0_f2 ca0_f2 Ha0_f2 t23 ht24 hI))) ?_
      rintro _ _ _ ⟨AR250, cR250, CR250, rfl, HR250, rfl, rfl⟩
      refine WL.restQ 2 [2, 3, 4, 7, 8] (L' := [(2, .int .i64 (IntKind.i64.wrap (1 + t19))), (3, .pointer (some ⟨b1, 0, none⟩)), (4, .pointer (some ⟨b2, 0, none⟩)), (7, .slice AR250 t23.1.length cR250), (8, .int .i64 t23.2)]) (by kernel_rfl) ?_
      refine WP.seqR ?_
      refine WL.tell (op := .load 41 (.tmp 4)) (ty := 41) (d := some 32) (g := none) (by kernel_rfl) (by kernel_rfl) (by kernel_rfl) (Tells.load_box (i := 1) (b := b2) (o := 0) (agg := true) (by rfl) ag41 (by kernel_rfl) (fun h => by cases h) (Nat.le_of_ble_eq_true rfl) (v := .agg #[.int .i64 a1.f0, .slice Aa1_f1 a1.f1.length ca1_f1, .slice Aa1_f2 a1.f2.length ca1_f2, .int .i64 a1.f3, .int .i64 a1.f4, .int .i64 a1.f5, .int .i64 a1.f6, .string a1.f7]) (by kernel_rfl)) ?_
      rw [Option.bind_eq_some_iff] at h
      obtain ⟨t27, ht28, h⟩ := h
      refine WL.op (op := .call { callee := (.value (.func 19)), args := #[(.tmp 32)], argTypes := #[41] }) (ty := 44) (d := some 33) (g := none) (by kernel_rfl) (by kernel_rfl) (by kernel_rfl) (Does.call (f := 19) (args := [.agg #[.int .i64 a1.f0, .slice Aa1_f1 a1.f1.length ca1_f1, .slice Aa1_f2 a1.f2.length ca1_f2, .int .i64 a1.f3, .int .i64 a1.f4, .int .i64 a1.f5, .int .i64 a1.f6, .string a1.f7]]) (by kernel_rfl) (fun W hI => (segment_Lay_calls HT k a1 Aa1_f1 ca1_f1 Ha1_f1 Aa1_f2 ca1_f2 Ha1_f2 t27 ht28 hI))) ?_
      rintro _ _ _ ⟨AR290, cR290, CR290, rfl, HR290, rfl, rfl⟩
      refine WL.restQ 2 [2, 3, 4, 7, 8, 9, 10] (L' := [(2, .int .i64 (IntKind.i64.wrap (1 + t19))), (3, .pointer (some ⟨b1, 0, none⟩)), (4, .pointer (some ⟨b2, 0, none⟩)), (7, .slice AR250 t23.1.length cR250), (8, .int .i64 t23.2), (9, .slice AR290 t27.1.length cR290), (10, .int .i64 t27.2)]) (by kernel_rfl) ?_
      refine WP.seq ?_
      rw [Option.bind_eq_some_iff] at h
      obtain ⟨os31, h, hk32⟩ := h
      refine WP.cut (fun L' G' Γ' => ∃ s31 : Bool, s31 = os31 ∧ L' = [(2, .int .i64 (IntKind.i64.wrap (1 + t19))), (3, .pointer (some ⟨b1, 0, none⟩)), (4, .pointer (some ⟨b2, 0, none⟩)), (7, .slice AR250 t23.1.length cR250), (8, .int .i64 t23.2), (9, .slice AR290 t27.1.length cR290), (10, .int .i64 t27.2), (41, .bool s31)] ∧ G = G' ∧ CR290 :: CR250 :: [(b2, .cells #[.int .i64 a1.f0, .slice Aa1_f1 a1.f1.length ca1_f1, .slice Aa1_f2 a1.f2.length ca1_f2, .int .i64 a1.f3, .int .i64 a1.f4, .int .i64 a1.f5, .int .i64 a1.f6, .string a1.f7] 41 (0, 0))] :: [(b1, .cells #[.int .i64 a0.f0, .slice Aa0_f1 a0.f1.length ca0_f1, .slice Aa0_f2 a0.f2.length ca0_f2, .int .i64 a0.f3, .int .i64 a0.f4, .int .i64 a0.f5, .int .i64 a0.f6, .string a0.f7] 41 (0, 0))] :: Γ = Γ') ?_ ?_
      · clear hk32
        refine WP.region ?_
        refine WL.pure 0 3 [2, 3, 4, 7, 8, 9, 10, 38] (L' := [(2, .int .i64 (IntKind.i64.wrap (1 + t19))), (3, .pointer (some ⟨b1, 0, none⟩)), (4, .pointer (some ⟨b2, 0, none⟩)), (7, .slice AR250 t23.1.length cR250), (8, .int .i64 t23.2), (9, .slice AR290 t27.1.length cR290), (10, .int .i64 t27.2), (38, .bool (t23.2 != 0))]) (by kernel_rfl) (by decide) ?_
        refine WL.split 38 (b := (t23.2 != 0)) (by kernel_rfl) (fun hc => ?_) (fun hc => ?_)
        · replace hc := (bne_iff_ne.1 hc)
          rw [if_pos hc] at h
          have hc33 := hc
          clear hc
          refine WL.rest 3 [2, 3, 4, 7, 8, 9, 10, 41] (L' := [(2, .int .i64 (IntKind.i64.wrap (1 + t19))), (3, .pointer (some ⟨b1, 0, none⟩)), (4, .pointer (some ⟨b2, 0, none⟩)), (7, .slice AR250 t23.1.length cR250), (8, .int .i64 t23.2), (9, .slice AR290 t27.1.length cR290), (10, .int .i64 t27.2), (41, .bool true)]) (by kernel_rfl) ?_
          refine QP.pick [2, 3, 4, 7, 8, 9, 10, 41] ?_
          exact QP.meet ⟨_, Option.some.inj h, rfl, rfl, rfl⟩
        · replace hc := (not_not_intro (bne_eq_false_iff_eq.1 hc))
          rw [if_neg hc] at h
          have hc33 := hc
          clear hc
          refine WL.rest 3 [2, 3, 4, 7, 8, 9, 10, 41] (L' := [(2, .int .i64 (IntKind.i64.wrap (1 + t19))), (3, .pointer (some ⟨b1, 0, none⟩)), (4, .pointer (some ⟨b2, 0, none⟩)), (7, .slice AR250 t23.1.length cR250), (8, .int .i64 t23.2), (9, .slice AR290 t27.1.length cR290), (10, .int .i64 t27.2), (41, .bool (t27.2 != 0))]) (by kernel_rfl) ?_
          refine QP.pick [2, 3, 4, 7, 8, 9, 10, 41] ?_
          exact QP.meet ⟨_, Option.some.inj h, rfl, rfl, rfl⟩
      · rintro _ _ _ ⟨s31, rfl, rfl, rfl, rfl⟩
        clear h
        replace h := hk32
        refine WP.cond (b := s31) (by kernel_rfl) (fun hc => ?_) (fun hc => ?_)
        · replace hc := hc
          rw [if_pos hc] at h
          have hc34 := hc
          clear hc
          rw [Option.bind_eq_some_iff] at h
          obtain ⟨os35, h, hk36⟩ := h
          refine WP.cut (fun L' G' Γ' => ∃ s35 : Bool, s35 = os35 ∧ L' = [(6, .bool s35)] ∧ G = G' ∧ Γ = Γ') ?_ ?_
          · clear hk36
            refine WP.region ?_
            refine WL.pure 0 3 [7, 9, 10, 44] (L' := [(7, .slice AR250 t23.1.length cR250), (9, .slice AR290 t27.1.length cR290), (10, .int .i64 t27.2), (44, .bool (t23.2 == 0))]) (by kernel_rfl) (by decide) ?_
            refine WL.split 44 (b := (t23.2 == 0)) (by kernel_rfl) (fun hc => ?_) (fun hc => ?_)
            · replace hc := eq_of_beq hc
              rw [if_pos hc] at h
              have hc37 := hc
              clear hc
              refine WL.pure 3 11 [9, 49, 52] (L' := [(9, .slice AR290 t27.1.length cR290), (49, .bool true), (52, .bool (t27.2 == 0))]) (by kernel_rfl) (by decide) ?_
              refine WL.split 52 (b := (t27.2 == 0)) (by kernel_rfl) (fun hc => ?_) (fun hc => ?_)
              · replace hc := eq_of_beq hc
                rw [if_pos hc] at h
                have hc38 := hc
                clear hc
                refine WL.pure 11 17 [58] (L' := [(58, .bool true)]) (by kernel_rfl) (by decide) ?_
                rw [Option.bind_eq_some_iff] at h
                obtain ⟨t39, ht40, h⟩ := h
                refine WL.op (op := .call { callee := (.value (.func 10)), args := #[], argTypes := #[] }) (ty := 4) (d := some 59) (g := some (16, true)) (by kernel_rfl) (by kernel_rfl) (by kernel_rfl) (Does.call (f := 10) (args := []) (by kernel_rfl) (fun W hI => (grapevinelaw8_awake_calls HT k   t39 ht40 hI))) ?_
                rintro _ _ _ ⟨rfl, rfl, rfl⟩
                refine WL.rest 18 [6] (L' := [(6, .bool t39)]) (by kernel_rfl) ?_
                refine QP.dropAt 3 ?_
                refine QP.dropAt 2 ?_
                refine QP.dropAt 1 ?_
                refine QP.dropAt 0 ?_
                refine QP.pick [6] ?_
                exact QP.meet ⟨_, Option.some.inj h, rfl, rfl, rfl⟩
              · replace hc := ne_of_beq_false hc
                rw [if_neg hc] at h
                have hc38 := hc
                clear hc
                refine WL.pure 11 17 [58] (L' := [(58, .bool ((t27.1.length : Int) == 0))]) (by kernel_rfl) (by decide) ?_
                refine WL.split 58 (b := ((t27.1.length : Int) == 0)) (by kernel_rfl) (fun hc => ?_) (fun hc => ?_)
                · replace hc := eq_of_beq hc
                  rw [if_pos hc] at h
                  have hc43 := hc
                  clear hc
                  rw [Option.bind_eq_some_iff] at h
                  obtain ⟨t44, ht45, h⟩ := h
                  refine WL.op (op := .call { callee := (.value (.func 10)), args := #[], argTypes := #[] }) (ty := 4) (d := some 59) (g := some (16, true)) (by kernel_rfl) (by kernel_rfl) (by kernel_rfl) (Does.call (f := 10) (args := []) (by kernel_rfl) (fun W hI => (grapevinelaw8_awake_calls HT k   t44 ht45 hI))) ?_
                  rintro _ _ _ ⟨rfl, rfl, rfl⟩
                  refine WL.rest 18 [6] (L' := [(6, .bool t44)]) (by kernel_rfl) ?_
                  refine QP.dropAt 3 ?_
                  refine QP.dropAt 2 ?_
                  refine QP.dropAt 1 ?_
                  refine QP.dropAt 0 ?_
                  refine QP.pick [6] ?_
                  exact QP.meet ⟨_, Option.some.inj h, rfl, rfl, rfl⟩
                · replace hc := ne_of_beq_false hc
                  rw [if_neg hc] at h
                  have hc43 := hc
                  clear hc
                  refine WL.rest 17 [6] (L' := [(6, .bool false)]) (by kernel_rfl) ?_
                  refine QP.dropAt 3 ?_
                  refine QP.dropAt 2 ?_
                  refine QP.dropAt 1 ?_
                  refine QP.dropAt 0 ?_
                  refine QP.pick [6] ?_
                  exact QP.meet ⟨_, Option.some.inj h, rfl, rfl, rfl⟩
            · replace hc := ne_of_beq_false hc
              rw [if_neg hc] at h
              have hc37 := hc
              clear hc
              refine WL.pure 3 8 [9, 10, 49] (L' := [(9, .slice AR290 t27.1.length cR290), (10, .int .i64 t27.2), (49, .bool ((t23.1.length : Int) == 0))]) (by kernel_rfl) (by decide) ?_
              refine WL.split 49 (b := ((t23.1.length : Int) == 0)) (by kernel_rfl) (fun hc => ?_) (fun hc => ?_)
              · replace hc := eq_of_beq hc
                rw [if_pos hc] at h
                have hc48 := hc
                clear hc
                refine WL.pure 8 11 [9, 49, 52] (L' := [(9, .slice AR290 t27.1.length cR290), (49, .bool true), (52, .bool (t27.2 == 0))]) (by kernel_rfl) (by decide) ?_
                refine WL.split 52 (b := (t27.2 == 0)) (by kernel_rfl) (fun hc => ?_) (fun hc => ?_)
                · replace hc := eq_of_beq hc
                  rw [if_pos hc] at h
                  have hc49 := hc
                  clear hc
                  refine WL.pure 11 17 [58] (L' := [(58, .bool true)]) (by kernel_rfl) (by decide) ?_
                  rw [Option.bind_eq_some_iff] at h
                  obtain ⟨t50, ht51, h⟩ := h
                  refine WL.op (op := .call { callee := (.value (.func 10)), args := #[], argTypes := #[] }) (ty := 4) (d := some 59) (g := some (16, true)) (by kernel_rfl) (by kernel_rfl) (by kernel_rfl) (Does.call (f := 10) (args := []) (by kernel_rfl) (fun W hI => (grapevinelaw8_awake_calls HT k   t50 ht51 hI))) ?_
                  rintro _ _ _ ⟨rfl, rfl, rfl⟩
                  refine WL.rest 18 [6] (L' := [(6, .bool t50)]) (by kernel_rfl) ?_
                  refine QP.dropAt 3 ?_
                  refine QP.dropAt 2 ?_
                  refine QP.dropAt 1 ?_
                  refine QP.dropAt 0 ?_
                  refine QP.pick [6] ?_
                  exact QP.meet ⟨_, Option.some.inj h, rfl, rfl, rfl⟩
                · replace hc := ne_of_beq_false hc
                  rw [if_neg hc] at h
                  have hc49 := hc
                  clear hc
                  refine WL.pure 11 17 [58] (L' := [(58, .bool ((t27.1.length : Int) == 0))]) (by kernel_rfl) (by decide) ?_
                  refine WL.split 58 (b := ((t27.1.length : Int) == 0)) (by kernel_rfl) (fun hc => ?_) (fun hc => ?_)
                  · replace hc := eq_of_beq hc
                    rw [if_pos hc] at h
                    have hc54 := hc
                    clear hc
                    rw [Option.bind_eq_some_iff] at h
                    obtain ⟨t55, ht56, h⟩ := h
                    refine WL.op (op := .call { callee := (.value (.func 10)), args := #[], argTypes := #[] }) (ty := 4) (d := some 59) (g := some (16, true)) (by kernel_rfl) (by kernel_rfl) (by kernel_rfl) (Does.call (f := 10) (args := []) (by kernel_rfl) (fun W hI => (grapevinelaw8_awake_calls HT k   t55 ht56 hI))) ?_
                    rintro _ _ _ ⟨rfl, rfl, rfl⟩
                    refine WL.rest 18 [6] (L' := [(6, .bool t55)]) (by kernel_rfl) ?_
                    refine QP.dropAt 3 ?_
                    refine QP.dropAt 2 ?_
                    refine QP.dropAt 1 ?_
                    refine QP.dropAt 0 ?_
                    refine QP.pick [6] ?_
                    exact QP.meet ⟨_, Option.some.inj h, rfl, rfl, rfl⟩
                  · replace hc := ne_of_beq_false hc
                    rw [if_neg hc] at h
                    have hc54 := hc
                    clear hc
                    refine WL.rest 17 [6] (L' := [(6, .bool false)]) (by kernel_rfl) ?_
                    refine QP.dropAt 3 ?_
                    refine QP.dropAt 2 ?_
                    refine QP.dropAt 1 ?_
                    refine QP.dropAt 0 ?_
                    refine QP.pick [6] ?_
                    exact QP.meet ⟨_, Option.some.inj h, rfl, rfl, rfl⟩
              · replace hc := ne_of_beq_false hc
                rw [if_neg hc] at h
                have hc48 := hc
                clear hc
                refine WL.rest 8 [6] (L' := [(6, .bool false)]) (by kernel_rfl) ?_
                refine QP.dropAt 3 ?_
                refine QP.dropAt 2 ?_
                refine QP.dropAt 1 ?_
                refine QP.dropAt 0 ?_
                refine QP.pick [6] ?_
                exact QP.meet ⟨_, Option.some.inj h, rfl, rfl, rfl⟩
          · rintro _ _ _ ⟨s35, rfl, rfl, rfl, rfl⟩
            clear h
            replace h := hk36
            refine WP.ret ?_
            refine QP.thenR ?_
            obtain rfl := Option.some.inj h
            exact QP.returned [6] [.bool s35] _ (by kernel_rfl) (by kernel_rfl) (by kernel_rfl) (fun W hI => ⟨_, _, _, rfl, ⟨rfl, rfl, rfl⟩, hI⟩)
        · replace hc := (Bool.eq_false_iff.1 hc)
          rw [if_neg hc] at h
          have hc34 := hc
          clear hc
          refine WP.skip ?_
          refine QP.next ?_
          refine WP.pick [2, 3, 4, 7, 9] ?_
          refine WP.seq ?_
          refine WP.seq ?_
          refine WP.any (N := 7) (S := [⟨some 61, [7], []⟩, ⟨some 62, [9], []⟩, ⟨some 63, [61, 62], [0, 1]⟩, ⟨some 64, [3], []⟩, ⟨some 65, [4], []⟩, ⟨some 66, [64, 65], [2, 3, 4]⟩, ⟨some 67, [63, 66], [2, 5]⟩]) (kw := 7) (G0 := G) (Γ0 := CR290 :: CR250 :: [(b2, .cells #[.int .i64 a1.f0, .slice Aa1_f1 a1.f1.length ca1_f1, .slice Aa1_f2 a1.f2.length ca1_f2, .int .i64 a1.f3, .int .i64 a1.f4, .int .i64 a1.f5, .int .i64 a1.f6, .string a1.f7] 41 (0, 0))] :: [(b1, .cells #[.int .i64 a0.f0, .slice Aa0_f1 a0.f1.length ca0_f1, .slice Aa0_f2 a0.f2.length ca0_f2, .int .i64 a0.f3, .int .i64 a0.f4, .int .i64 a0.f5, .int .i64 a0.f6, .string a0.f7] 41 (0, 0))] :: Γ) mo (by kernel_rfl) (fun hS => ?_)
          refine WA.pure [0, 1] [2, 3, 4, 7, 61, 62] (m := 5) (b' := 3) (L' := [(2, .int .i64 (IntKind.i64.wrap (1 + t19))), (3, .pointer (some ⟨b1, 0, none⟩)), (4, .pointer (some ⟨b2, 0, none⟩)), (7, .slice AR250 t23.1.length cR250), (61, .slice AR250 t23.1.length cR250), (62, .slice AR290 t27.1.length cR290)]) (by kernel_rfl) (NoPanic.then (NoPanic.then (NoPanic.body))) Under.refl hS (by kernel_rfl) ?_
          refine WA.tellD [] (i := 3) (m := 4) (b' := 11) (by kernel_rfl) (NoPanic.then (NoPanic.then (NoPanic.body))) Under.refl hS (by kernel_rfl) (op := .load 41 (.tmp 3)) (ty := 41) (d := some 64) (g := none) (by kernel_rfl) (by kernel_rfl) (by kernel_rfl) (Tells.load_box (i := 3) (b := b1) (o := 0) (agg := true) (by rfl) ag41 (by kernel_rfl) (fun h => by cases h) (Nat.le_of_ble_eq_true rfl) (v := .agg #[.int .i64 a0.f0, .slice Aa0_f1 a0.f1.length ca0_f1, .slice Aa0_f2 a0.f2.length ca0_f2, .int .i64 a0.f3, .int .i64 a0.f4, .int .i64 a0.f5, .int .i64 a0.f6, .string a0.f7]) (by kernel_rfl)) ?_
          refine WA.tellD [] (i := 4) (m := 3) (b' := 27) (by kernel_rfl) (NoPanic.then (NoPanic.then (NoPanic.body))) Under.refl hS (by kernel_rfl) (op := .load 41 (.tmp 4)) (ty := 41) (d := some 65) (g := none) (by kernel_rfl) (by kernel_rfl) (by kernel_rfl) (Tells.load_box (i := 2) (b := b2) (o := 0) (agg := true) (by rfl) ag41 (by kernel_rfl) (fun h => by cases h) (Nat.le_of_ble_eq_true rfl) (v := .agg #[.int .i64 a1.f0, .slice Aa1_f1 a1.f1.length ca1_f1, .slice Aa1_f2 a1.f2.length ca1_f2, .int .i64 a1.f3, .int .i64 a1.f4, .int .i64 a1.f5, .int .i64 a1.f6, .string a1.f7]) (by kernel_rfl)) ?_
          rw [Option.bind_eq_some_iff] at h
          obtain ⟨t59, ht60, h⟩ := h
          refine WA.op (i := 2) (m := 2) (b' := 31) (by kernel_rfl) hS (by kernel_rfl) (op := .call { callee := (.value (.func 22)), args := #[(.tmp 61), (.tmp 62)], argTypes := #[22, 22] }) (ty := 4) (d := some 63) (g := none) (by kernel_rfl) (by kernel_rfl) (by kernel_rfl) (Does.call (Φ := fun v' G' Γ' => v' = .bool t59 ∧ G = G' ∧ CR290 :: CR250 :: [(b2, .cells #[.int .i64 a1.f0, .slice Aa1_f1 a1.f1.length ca1_f1, .slice Aa1_f2 a1.f2.length ca1_f2, .int .i64 a1.f3, .int .i64 a1.f4, .int .i64 a1.f5, .int .i64 a1.f6, .string a1.f7] 41 (0, 0))] :: [(b1, .cells #[.int .i64 a0.f0, .slice Aa0_f1 a0.f1.length ca0_f1, .slice Aa0_f2 a0.f2.length ca0_f2, .int .i64 a0.f3, .int .i64 a0.f4, .int .i64 a0.f5, .int .i64 a0.f6, .string a0.f7] 41 (0, 0))] :: Γ = Γ') (f := 22) (args := [.slice AR250 t23.1.length cR250, .slice AR290 t27.1.length cR290]) (by kernel_rfl) (fun W hI => (Calls.lendN (Φ := fun v' N => v' = .bool t59 ∧ N = []) (H := []) (i := 1) rfl hI (fun _ e l63 nl63 hI => by subst e; exact Calls.lendN (Φ := fun v' N => v' = .bool t59 ∧ N = []) (H := []) (i := 0) rfl hI (fun _ e l64 nl64 hI => by subst e; exact (((grapevinelaw0_SameBytes_calls k t23.1 t27.1 AR250 cR250 ((HR250.rdN l63 nl63).mono l64) AR290 cR290 ((HR290.mono l63).rdN l64 nl64) t59 ht60 hI)).mono fun _ _ hr => by obtain ⟨_, _, _, rfl, hd, hI⟩ := hr; obtain ⟨rfl, rfl, rfl⟩ := hd; exact ⟨_, _, _, rfl, ⟨[], ⟨rfl, rfl⟩, rfl, rfl⟩, hI⟩)))).mono fun _ _ hr => by obtain ⟨_, _, _, rfl, ⟨_, hd, rfl, rfl⟩, hI⟩ := hr; obtain ⟨rfl, rfl⟩ := hd; exact ⟨_, _, _, rfl, ⟨rfl, rfl, rfl⟩, hI⟩)) ?_
          rintro _ _ _ ⟨rfl, rfl, rfl⟩
          refine ⟨_, _, Under.refl, Under.refl, ?_⟩
          rw [Option.bind_eq_some_iff] at h
          obtain ⟨t65, ht66, h⟩ := h
          refine WA.op (i := 5) (m := 1) (b' := 63) (by kernel_rfl) hS (by kernel_rfl) (op := .call { callee := (.value (.func 23)), args := #[(.tmp 64), (.tmp 65)], argTypes := #[41, 41] }) (ty := 4) (d := some 66) (g := none) (by kernel_rfl) (by kernel_rfl) (by kernel_rfl) (Does.call (f := 23) (args := [.agg #[.int .i64 a0.f0, .slice Aa0_f1 a0.f1.length ca0_f1, .slice Aa0_f2 a0.f2.length ca0_f2, .int .i64 a0.f3, .int .i64 a0.f4, .int .i64 a0.f5, .int .i64 a0.f6, .string a0.f7], .agg #[.int .i64 a1.f0, .slice Aa1_f1 a1.f1.length ca1_f1, .slice Aa1_f2 a1.f2.length ca1_f2, .int .i64 a1.f3, .int .i64 a1.f4, .int .i64 a1.f5, .int .i64 a1.f6, .string a1.f7]]) (by kernel_rfl) (fun W hI => (segment_Same_calls k a0 a1 Aa0_f1 ca0_f1 Ha0_f1 Aa0_f2 ca0_f2 Ha0_f2 Aa1_f1 ca1_f1 Ha1_f1 Aa1_f2 ca1_f2 Ha1_f2 t65 ht66 hI))) ?_
          rintro _ _ _ ⟨rfl, rfl, rfl⟩
          refine ⟨_, _, Under.refl, Under.refl, ?_⟩
          refine WA.pure [6] [2, 3, 7, 67] (m := 0) (b' := 127) (L' := [(2, .int .i64 (IntKind.i64.wrap (1 + t19))), (3, .pointer (some ⟨b1, 0, none⟩)), (7, .slice AR250 t23.1.length cR250), (67, .bool (!(t59 == t65)))]) (by kernel_rfl) (NoPanic.then (NoPanic.then (NoPanic.body))) Under.refl hS (by kernel_rfl) ?_
          refine WA.done hS (by kernel_rfl) ?_
          refine QP.pick [2, 3, 7, 67] ?_
          refine QP.next ?_
          refine WP.dropAt 2 ?_
          refine WP.dropAt 0 ?_
          refine WP.cond (b := (!(t59 == t65))) (by kernel_rfl) (fun hc => ?_) (fun hc => ?_)
          · replace hc := hc
            rw [if_pos hc] at h
            have hc69 := hc
            clear hc
            refine WP.seqP [6] (L' := [(6, .bool false)]) (by kernel_rfl) ?_
            refine WP.dropAt 1 ?_
            refine WP.dropAt 0 ?_
            refine WP.ret ?_
            refine QP.thenR ?_
            obtain rfl := Option.some.inj h
            exact QP.returned [6] [.bool false] _ (by kernel_rfl) (by kernel_rfl) (by kernel_rfl) (fun W hI => ⟨_, _, _, rfl, ⟨rfl, rfl, rfl⟩, hI⟩)
          · replace hc := (Bool.eq_false_iff.1 hc)
            rw [if_neg hc] at h
            have hc69 := hc
            clear hc
            refine WP.skip ?_
            refine QP.next ?_
            refine WP.pick [2, 3, 7] ?_
            rw [Option.bind_eq_some_iff] at h
            obtain ⟨os70, h, hk71⟩ := h
            refine WP.cut (fun L' G' Γ' => ∃ s70 : (List Int) × Int, s70 = os70 ∧ ∃ (As70_1 : Option Addr), ∃ (cs70_1 : Nat), ∃ (Cs70_1 : Chunk), L' = [(2, .int .i64 (IntKind.i64.wrap (1 + t19))), (3, .pointer (some ⟨b1, 0, none⟩)), (7, .slice AR250 t23.1.length cR250), (11, .slice As70_1 s70.1.length cs70_1), (12, .int .i64 s70.2)] ∧ G = G' ∧ Cs70_1 :: CR250 :: [(b1, .cells #[.int .i64 a0.f0, .slice Aa0_f1 a0.f1.length ca0_f1, .slice Aa0_f2 a0.f2.length ca0_f2, .int .i64 a0.f3, .int .i64 a0.f4, .int .i64 a0.f5, .int .i64 a0.f6, .string a0.f7] 41 (0, 0))] :: Γ = Γ' ∧ Ow (kInt .u8) G As70_1 cs70_1 s70.1 Cs70_1) ?_ ?_
            · clear hk71
              skip
              refine WP.any (N := 11) (S := [⟨some 69, [2], []⟩, ⟨some 70, [69], [0]⟩, ⟨some 71, [2], []⟩, ⟨some 72, [71], [2]⟩, ⟨some 73, [70, 72], [1, 3]⟩, ⟨some 74, [73], [4]⟩, ⟨some 68, [74], [5]⟩, ⟨some 75, [68], [6]⟩, ⟨some 76, [68], [6]⟩, ⟨some 11, [75], [0, 1, 2, 3, 4, 5, 6, 7]⟩, ⟨some 12, [76], [0, 1, 2, 3, 4, 5, 6, 7, 8, 9]⟩]) (kw := 11) (G0 := G) (Γ0 := CR250 :: [(b1, .cells #[.int .i64 a0.f0, .slice Aa0_f1 a0.f1.length ca0_f1, .slice Aa0_f2 a0.f2.length ca0_f2, .int .i64 a0.f3, .int .i64 a0.f4, .int .i64 a0.f5, .int .i64 a0.f6, .string a0.f7] 41 (0, 0))] :: Γ) mo (by kernel_rfl) (fun hS => ?_)
              refine WA.pure [0, 2] [2, 3, 7, 69, 71] (m := 9) (b' := 5) (L' := [(2, .int .i64 (IntKind.i64.wrap (1 + t19))), (3, .pointer (some ⟨b1, 0, none⟩)), (7, .slice AR250 t23.1.length cR250), (69, .int .i64 (IntKind.i64.wrap (1 + t19))), (71, .int .i64 (IntKind.i64.wrap (1 + t19)))]) (by kernel_rfl) (NoPanic.then (NoPanic.body)) Under.refl hS (by kernel_rfl) ?_
              by_cases hb72 : 0 ≤ (IntKind.i64.wrap (1 + t19)) ∧ (IntKind.i64.wrap (1 + t19)) ≤ (IntKind.i64.wrap (1 + t19)) ∧ (IntKind.i64.wrap (1 + t19)) ≤ 1073741824
              case neg => rw [if_neg hb72] at h; cases h
              rw [if_pos hb72] at h
              by_cases hb73 : 0 ≤ (IntKind.i64.wrap (1 + t19)) ∧ (IntKind.i64.wrap (1 + t19)) ≤ (IntKind.i64.wrap (1 + t19)) ∧ (IntKind.i64.wrap (1 + t19)) ≤ 1073741824
              case neg => rw [if_neg hb73] at h; cases h
              rw [if_pos hb73] at h
              refine WA.two (i := 1) (j := 3) (m := 8) (by kernel_rfl) hS (by kernel_rfl) ?_ ?_
              · refine WO.op (b' := 7) (by kernel_rfl) (op := .makeSlice 32 (.tmp 69) (.tmp 69)) (ty := 32) (d := some 70) (g := none) (by kernel_rfl) (by kernel_rfl) (by kernel_rfl) (Does.make (kd := (kInt .i64)) (k := .i64) (k' := .i64) (l := (IntKind.i64.wrap (1 + t19))) (c := (IntKind.i64.wrap (1 + t19))) (z := 0) (zv := .int .i64 0) (by kernel_rfl) (by kernel_rfl) hb72.1 hb72.2.1 sl32 (by decide) hb72.2.2 (by kernel_rfl) (fun _ => (by exact rfl))) ?_
                rintro _ _ _ ⟨rfl, AM74, cM74, CM74, rfl, he75, HM74, rfl⟩
                refine ⟨_, _, Under.cons Under.refl, Under.refl, ?_⟩
                refine WA.op (i := 3) (m := 7) (b' := 15) (by kernel_rfl) hS (by kernel_rfl) (op := .makeSlice 32 (.tmp 71) (.tmp 71)) (ty := 32) (d := some 72) (g := none) (by kernel_rfl) (by kernel_rfl) (by kernel_rfl) (Does.make (kd := (kInt .i64)) (k := .i64) (k' := .i64) (l := (IntKind.i64.wrap (1 + t19))) (c := (IntKind.i64.wrap (1 + t19))) (z := 0) (zv := .int .i64 0) (by kernel_rfl) (by kernel_rfl) hb73.1 hb73.2.1 sl32 (by decide) hb73.2.2 (by kernel_rfl) (fun _ => (by exact rfl))) ?_
                rintro _ _ _ ⟨rfl, AM76, cM76, CM76, rfl, he77, HM76, rfl⟩
                refine ⟨_, _, Under.cons Under.refl, Under.refl, ?_⟩
                refine WA.pure [4] [2, 3, 7, 73] (m := 6) (b' := 31) (L' := [(2, .int .i64 (IntKind.i64.wrap (1 + t19))), (3, .pointer (some ⟨b1, 0, none⟩)), (7, .slice AR250 t23.1.length cR250), (73, .agg #[.int .i64 1, .slice AM74 (List.replicate (IntKind.i64.wrap (1 + t19)).toNat (0 : Int)).length cM74, .slice AM76 (List.replicate (IntKind.i64.wrap (1 + t19)).toNat (0 : Int)).length cM76, .int .i64 0, .int .i64 0, .int .i64 0, .int .i64 0, .string (⟨#[]⟩ : ByteArray)])]) (by kernel_rfl) (NoPanic.then (NoPanic.body)) Under.refl hS (by kernel_rfl) ?_
                rw [Option.bind_eq_some_iff] at h
                obtain ⟨t78, ht79, h⟩ := h
                refine WA.op (i := 5) (m := 5) (b' := 63) (by kernel_rfl) hS (by kernel_rfl) (op := .call { callee := (.value (.func 19)), args := #[(.tmp 73)], argTypes := #[41] }) (ty := 44) (d := some 74) (g := none) (by kernel_rfl) (by kernel_rfl) (by kernel_rfl) (Does.call (Φ := fun v' G' Γ' => ∃ (AR800 : Option Addr), ∃ (cR800 : Nat), ∃ (CR800 : Chunk), v' = .tuple #[.slice AR800 t78.1.length cR800, .int .i64 t78.2] ∧ Ow (kInt .u8) G AR800 cR800 t78.1 CR800 ∧ G = G' ∧ CR800 :: CM76 :: CM74 :: CR250 :: [(b1, .cells #[.int .i64 a0.f0, .slice Aa0_f1 a0.f1.length ca0_f1, .slice Aa0_f2 a0.f2.length ca0_f2, .int .i64 a0.f3, .int .i64 a0.f4, .int .i64 a0.f5, .int .i64 a0.f6, .string a0.f7] 41 (0, 0))] :: Γ = Γ') (f := 19) (args := [.agg #[.int .i64 1, .slice AM74 (List.replicate (IntKind.i64.wrap (1 + t19)).toNat (0 : Int)).length cM74, .slice AM76 (List.replicate (IntKind.i64.wrap (1 + t19)).toNat (0 : Int)).length cM76, .int .i64 0, .int .i64 0, .int .i64 0, .int .i64 0, .string (⟨#[]⟩ : ByteArray)]]) (by kernel_rfl) (fun W hI => (Calls.lendN (Φ := fun v' N => ∃ (AR800 : Option Addr), ∃ (cR800 : Nat), ∃ (CR800 : Chunk), v' = .tuple #[.slice AR800 t78.1.length cR800, .int .i64 t78.2] ∧ Ow (kInt .u8) G AR800 cR800 t78.1 CR800 ∧ N = [CR800]) (H := []) (i := 1) rfl hI (fun _ e l82 nl82 hI => by subst e; exact Calls.lendN (Φ := fun v' N => ∃ (AR800 : Option Addr), ∃ (cR800 : Nat), ∃ (CR800 : Chunk), v' = .tuple #[.slice AR800 t78.1.length cR800, .int .i64 t78.2] ∧ Ow (kInt .u8) G AR800 cR800 t78.1 CR800 ∧ N = [CR800]) (H := []) (i := 0) rfl hI (fun _ e l83 nl83 hI => by subst e; exact (((segment_Lay_calls ((HT.mono l82).mono l83) k (⟨1, (List.replicate (IntKind.i64.wrap (1 + t19)).toNat (0 : Int)), (List.replicate (IntKind.i64.wrap (1 + t19)).toNat (0 : Int)), 0, 0, 0, 0, (⟨#[]⟩ : ByteArray)⟩ : T41) AM74 cM74 ((HM74.rdN l82 nl82).mono l83) AM76 cM76 ((HM76.mono l82).rdN l83 nl83) t78 ht79 hI)).mono fun _ _ hr => by obtain ⟨_, _, _, rfl, hd, hI⟩ := hr; obtain ⟨AR800, cR800, CR800, rfl, HR800, rfl, rfl⟩ := hd; exact ⟨_, _, _, rfl, ⟨[CR800], ⟨AR800, cR800, CR800, rfl, (HR800.flat (kInt_flat _)), rfl⟩, rfl, rfl⟩, hI⟩)))).mono fun _ _ hr => by obtain ⟨_, _, _, rfl, ⟨_, hd, rfl, rfl⟩, hI⟩ := hr; obtain ⟨AR800, cR800, CR800, rfl, HR800, rfl⟩ := hd; exact ⟨_, _, _, rfl, ⟨AR800, cR800, CR800, rfl, HR800, rfl, rfl⟩, hI⟩)) ?_
                rintro _ _ _ ⟨AR800, cR800, CR800, rfl, HR800, rfl, rfl⟩
                refine ⟨_, _, Under.cons (Under.refl), Under.refl, ?_⟩
                refine WA.pure [6, 7, 8, 9, 10] [2, 3, 7, 11, 12] (m := 0) (b' := 2047) (L' := [(2, .int .i64 (IntKind.i64.wrap (1 + t19))), (3, .pointer (some ⟨b1, 0, none⟩)), (7, .slice AR250 t23.1.length cR250), (11, .slice AR800 t78.1.length cR800), (12, .int .i64 t78.2)]) (by kernel_rfl) (NoPanic.then (NoPanic.body)) Under.refl hS (by kernel_rfl) ?_
                refine WA.done hS (by kernel_rfl) ?_
                refine QP.pick [2, 3, 7, 11, 12] ?_
                refine QP.dropAt 2 ?_
                refine QP.dropAt 1 ?_
                refine QP.pick [2, 3, 7, 11, 12] ?_
                exact QP.meet ⟨_, Option.some.inj h, AR800, cR800, CR800, rfl, rfl, rfl, HR800⟩
              · refine WO.op (b' := 13) (by kernel_rfl) (op := .makeSlice 32 (.tmp 71) (.tmp 71)) (ty := 32) (d := some 72) (g := none) (by kernel_rfl) (by kernel_rfl) (by kernel_rfl) (Does.make (kd := (kInt .i64)) (k := .i64) (k' := .i64) (l := (IntKind.i64.wrap (1 + t19))) (c := (IntKind.i64.wrap (1 + t19))) (z := 0) (zv := .int .i64 0) (by kernel_rfl) (by kernel_rfl) hb73.1 hb73.2.1 sl32 (by decide) hb73.2.2 (by kernel_rfl) (fun _ => (by exact rfl))) ?_
                rintro _ _ _ ⟨rfl, AM74, cM74, CM74, rfl, he75, HM74, rfl⟩
                refine ⟨_, _, Under.cons Under.refl, Under.refl, ?_⟩
                refine WA.op (i := 1) (m := 7) (b' := 15) (by kernel_rfl) hS (by kernel_rfl) (op := .makeSlice 32 (.tmp 69) (.tmp 69)) (ty := 32) (d := some 70) (g := none) (by kernel_rfl) (by kernel_rfl) (by kernel_rfl) (Does.make (kd := (kInt .i64)) (k := .i64) (k' := .i64) (l := (IntKind.i64.wrap (1 + t19))) (c := (IntKind.i64.wrap (1 + t19))) (z := 0) (zv := .int .i64 0) (by kernel_rfl) (by kernel_rfl) hb72.1 hb72.2.1 sl32 (by decide) hb72.2.2 (by kernel_rfl) (fun _ => (by exact rfl))) ?_
                rintro _ _ _ ⟨rfl, AM76, cM76, CM76, rfl, he77, HM76, rfl⟩
                refine ⟨_, _, Under.cons Under.refl, Under.refl, ?_⟩
                refine WA.pure [4] [2, 3, 7, 73] (m := 6) (b' := 31) (L' := [(2, .int .i64 (IntKind.i64.wrap (1 + t19))), (3, .pointer (some ⟨b1, 0, none⟩)), (7, .slice AR250 t23.1.length cR250), (73, .agg #[.int .i64 1, .slice AM76 (List.replicate (IntKind.i64.wrap (1 + t19)).toNat (0 : Int)).length cM76, .slice AM74 (List.replicate (IntKind.i64.wrap (1 + t19)).toNat (0 : Int)).length cM74, .int .i64 0, .int .i64 0, .int .i64 0, .int .i64 0, .string (⟨#[]⟩ : ByteArray)])]) (by kernel_rfl) (NoPanic.then (NoPanic.body)) Under.refl hS (by kernel_rfl) ?_
                rw [Option.bind_eq_some_iff] at h
                obtain ⟨t78, ht79, h⟩ := h
                refine WA.op (i := 5) (m := 5) (b' := 63) (by kernel_rfl) hS (by kernel_rfl) (op := .call { callee := (.value (.func 19)), args := #[(.tmp 73)], argTypes := #[41] }) (ty := 44) (d := some 74) (g := none) (by kernel_rfl) (by kernel_rfl) (by kernel_rfl) (Does.call (Φ := fun v' G' Γ' => ∃ (AR800 : Option Addr), ∃ (cR800 : Nat), ∃ (CR800 : Chunk), v' = .tuple #[.slice AR800 t78.1.length cR800, .int .i64 t78.2] ∧ Ow (kInt .u8) G AR800 cR800 t78.1 CR800 ∧ G = G' ∧ CR800 :: CM76 :: CM74 :: CR250 :: [(b1, .cells #[.int .i64 a0.f0, .slice Aa0_f1 a0.f1.length ca0_f1, .slice Aa0_f2 a0.f2.length ca0_f2, .int .i64 a0.f3, .int .i64 a0.f4, .int .i64 a0.f5, .int .i64 a0.f6, .string a0.f7] 41 (0, 0))] :: Γ = Γ') (f := 19) (args := [.agg #[.int .i64 1, .slice AM76 (List.replicate (IntKind.i64.wrap (1 + t19)).toNat (0 : Int)).length cM76, .slice AM74 (List.replicate (IntKind.i64.wrap (1 + t19)).toNat (0 : Int)).length cM74, .int .i64 0, .int .i64 0, .int .i64 0, .int .i64 0, .string (⟨#[]⟩ : ByteArray)]]) (by kernel_rfl) (fun W hI => (Calls.lendN (Φ := fun v' N => ∃ (AR800 : Option Addr), ∃ (cR800 : Nat), ∃ (CR800 : Chunk), v' = .tuple #[.slice AR800 t78.1.length cR800, .int .i64 t78.2] ∧ Ow (kInt .u8) G AR800 cR800 t78.1 CR800 ∧ N = [CR800]) (H := []) (i := 0) rfl hI (fun _ e l82 nl82 hI => by subst e; exact Calls.lendN (Φ := fun v' N => ∃ (AR800 : Option Addr), ∃ (cR800 : Nat), ∃ (CR800 : Chunk), v' = .tuple #[.slice AR800 t78.1.length cR800, .int .i64 t78.2] ∧ Ow (kInt .u8) G AR800 cR800 t78.1 CR800 ∧ N = [CR800]) (H := []) (i := 1) rfl hI (fun _ e l83 nl83 hI => by subst e; exact (((segment_Lay_calls ((HT.mono l82).mono l83) k (⟨1, (List.replicate (IntKind.i64.wrap (1 + t19)).toNat (0 : Int)), (List.replicate (IntKind.i64.wrap (1 + t19)).toNat (0 : Int)), 0, 0, 0, 0, (⟨#[]⟩ : ByteArray)⟩ : T41) AM76 cM76 ((HM76.rdN l82 nl82).mono l83) AM74 cM74 ((HM74.mono l82).rdN l83 nl83) t78 ht79 hI)).mono fun _ _ hr => by obtain ⟨_, _, _, rfl, hd, hI⟩ := hr; obtain ⟨AR800, cR800, CR800, rfl, HR800, rfl, rfl⟩ := hd; exact ⟨_, _, _, rfl, ⟨[CR800], ⟨AR800, cR800, CR800, rfl, (HR800.flat (kInt_flat _)), rfl⟩, rfl, rfl⟩, hI⟩)))).mono fun _ _ hr => by obtain ⟨_, _, _, rfl, ⟨_, hd, rfl, rfl⟩, hI⟩ := hr; obtain ⟨AR800, cR800, CR800, rfl, HR800, rfl⟩ := hd; exact ⟨_, _, _, rfl, ⟨AR800, cR800, CR800, rfl, HR800, rfl, rfl⟩, hI⟩)) ?_
                rintro _ _ _ ⟨AR800, cR800, CR800, rfl, HR800, rfl, rfl⟩
                refine ⟨_, _, Under.cons (Under.refl), Under.refl, ?_⟩
                refine WA.pure [6, 7, 8, 9, 10] [2, 3, 7, 11, 12] (m := 0) (b' := 2047) (L' := [(2, .int .i64 (IntKind.i64.wrap (1 + t19))), (3, .pointer (some ⟨b1, 0, none⟩)), (7, .slice AR250 t23.1.length cR250), (11, .slice AR800 t78.1.length cR800), (12, .int .i64 t78.2)]) (by kernel_rfl) (NoPanic.then (NoPanic.body)) Under.refl hS (by kernel_rfl) ?_
                refine WA.done hS (by kernel_rfl) ?_
                refine QP.pick [2, 3, 7, 11, 12] ?_
                refine QP.dropAt 2 ?_
                refine QP.dropAt 1 ?_
                refine QP.pick [2, 3, 7, 11, 12] ?_
                exact QP.meet ⟨_, Option.some.inj h, AR800, cR800, CR800, rfl, rfl, rfl, HR800⟩
            · rintro _ _ _ ⟨s70, rfl, As70_1, cs70_1, Cs70_1, rfl, rfl, rfl, Hs70_1⟩
              clear h
              replace h := hk71
              refine WP.seqR ?_
              refine WL.pure 0 1 [2, 3, 7, 11, 12, 78] (L' := [(2, .int .i64 (IntKind.i64.wrap (1 + t19))), (3, .pointer (some ⟨b1, 0, none⟩)), (7, .slice AR250 t23.1.length cR250), (11, .slice As70_1 s70.1.length cs70_1), (12, .int .i64 s70.2), (78, .slice As70_1 s70.1.length cs70_1)]) (by kernel_rfl) (by decide) ?_
              refine WL.addNil ?_
              by_cases hb84 : ([] : List Int).length + s70.1.length ≤ 1073741824
              case neg => rw [if_neg hb84] at h; cases h
              rw [if_pos hb84] at h
              refine WL.op (op := .call { callee := (.builtin .append), args := #[(.const (.slice none 0 0)), (.tmp 78)], argTypes := #[22, 22] }) (ty := 22) (d := some 79) (g := none) (by kernel_rfl) (by kernel_rfl) (by kernel_rfl) (Ow.append (ys := s70.1) (v := .slice As70_1 s70.1.length cs70_1) (Ow.nil (kInt .u8) G) (i := 0) rfl (by kernel_rfl) (by kernel_rfl) (Hs70_1.src (i := 1) rfl) sl22 ze5 nt22 (by decide) hb84) ?_
              rintro _ _ _ ⟨rfl, AN85, cN85, CN85, rfl, HN85, rfl⟩
              refine WL.pure 2 3 [2, 3, 7, 11, 12, 79, 80] (L' := [(2, .int .i64 (IntKind.i64.wrap (1 + t19))), (3, .pointer (some ⟨b1, 0, none⟩)), (7, .slice AR250 t23.1.length cR250), (11, .slice As70_1 s70.1.length cs70_1), (12, .int .i64 s70.2), (79, .slice AN85 (([] : List Int) ++ s70.1).length cN85), (80, .slice AR250 t23.1.length cR250)]) (by kernel_rfl) (by decide) ?_
              by_cases hb86 : (([] : List Int) ++ s70.1).length + t23.1.length ≤ 1073741824
              case neg => rw [if_neg hb86] at h; cases h
              rw [if_pos hb86] at h
              refine WL.op (op := .call { callee := (.builtin .append), args := #[(.tmp 79), (.tmp 80)], argTypes := #[22, 22] }) (ty := 22) (d := some 81) (g := none) (by kernel_rfl) (by kernel_rfl) (by kernel_rfl) (Ow.append (ys := t23.1) (v := .slice AR250 t23.1.length cR250) HN85 (i := 0) rfl (by kernel_rfl) (by kernel_rfl) (HR250.src (i := 2) rfl) sl22 ze5 nt22 (by decide) hb86) ?_
              rintro _ _ _ ⟨rfl, AN87, cN87, CN87, rfl, HN87, rfl⟩
              refine WL.pure 4 5 [2, 3, 7, 11, 12, 81, 82] (L' := [(2, .int .i64 (IntKind.i64.wrap (1 + t19))), (3, .pointer (some ⟨b1, 0, none⟩)), (7, .slice AR250 t23.1.length cR250), (11, .slice As70_1 s70.1.length cs70_1), (12, .int .i64 s70.2), (81, .slice AN87 ((([] : List Int) ++ s70.1) ++ t23.1).length cN87), (82, .int .i64 (IntKind.i64.wrap (1 + t19)))]) (by kernel_rfl) (by decide) ?_
              rw [Option.bind_eq_some_iff] at h
              obtain ⟨t88, ht89, h⟩ := h
              refine WL.op (op := .call { callee := (.value (.func 12)), args := #[(.tmp 81), (.tmp 82)], argTypes := #[22, 3] }) (ty := 26) (d := some 83) (g := none) (by kernel_rfl) (by kernel_rfl) (by kernel_rfl) (Does.call (Φ := fun v' G' Γ' => ∃ (AR900 : Option Addr), ∃ (cR900 : Nat), ∃ (CR900 : Chunk), v' = .tuple #[.slice AR900 t88.1.length cR900, .int .i64 t88.2] ∧ Dp d41 G AR900 cR900 t88.1 CR900 ∧ G = G' ∧ CR900 :: CN87 :: Cs70_1 :: CR250 :: [(b1, .cells #[.int .i64 a0.f0, .slice Aa0_f1 a0.f1.length ca0_f1, .slice Aa0_f2 a0.f2.length ca0_f2, .int .i64 a0.f3, .int .i64 a0.f4, .int .i64 a0.f5, .int .i64 a0.f6, .string a0.f7] 41 (0, 0))] :: Γ = Γ') (f := 12) (args := [.slice AN87 ((([] : List Int) ++ s70.1) ++ t23.1).length cN87, .int .i64 (IntKind.i64.wrap (1 + t19))]) (by kernel_rfl) (fun W hI => (Calls.lendN (Φ := fun v' N => ∃ (AR900 : Option Addr), ∃ (cR900 : Nat), ∃ (CR900 : Chunk), v' = .tuple #[.slice AR900 t88.1.length cR900, .int .i64 t88.2] ∧ Dp d41 G AR900 cR900 t88.1 CR900 ∧ N = [CR900]) (H := []) (i := 0) rfl hI (fun _ e l92 nl92 hI => by subst e; exact (((segment_Read_calls (HT.mono l92) k ((([] : List Int) ++ s70.1) ++ t23.1) (IntKind.i64.wrap (1 + t19)) AN87 cN87 (HN87.rdN l92 nl92) t88 ht89 hI)).mono fun _ _ hr => by obtain ⟨_, _, _, rfl, hd, hI⟩ := hr; obtain ⟨AR900, cR900, CR900, rfl, HR900, rfl, rfl⟩ := hd; exact ⟨_, _, _, rfl, ⟨[CR900], ⟨AR900, cR900, CR900, rfl, (HR900.flat (kInt_flat .i64)), rfl⟩, rfl, rfl⟩, hI⟩))).mono fun _ _ hr => by obtain ⟨_, _, _, rfl, ⟨_, hd, rfl, rfl⟩, hI⟩ := hr; obtain ⟨AR900, cR900, CR900, rfl, HR900, rfl⟩ := hd; exact ⟨_, _, _, rfl, ⟨AR900, cR900, CR900, rfl, HR900, rfl, rfl⟩, hI⟩)) ?_
              rintro _ _ _ ⟨AR900, cR900, CR900, rfl, HR900, rfl, rfl⟩
              refine WL.restQ 6 [2, 3, 7, 11, 12, 13, 14] (L' := [(2, .int .i64 (IntKind.i64.wrap (1 + t19))), (3, .pointer (some ⟨b1, 0, none⟩)), (7, .slice AR250 t23.1.length cR250), (11, .slice As70_1 s70.1.length cs70_1), (12, .int .i64 s70.2), (13, .slice AR900 t88.1.length cR900), (14, .int .i64 t88.2)]) (by kernel_rfl) ?_
              refine WP.dropAt 1 ?_
              rw [Option.bind_eq_some_iff] at h
              obtain ⟨os93, h, hk94⟩ := h
              refine WP.cut (fun L' G' Γ' => ∃ s93 : Bool, s93 = os93 ∧ L' = [(3, .pointer (some ⟨b1, 0, none⟩)), (7, .slice AR250 t23.1.length cR250), (11, .slice As70_1 s70.1.length cs70_1), (12, .int .i64 s70.2), (13, .slice AR900 t88.1.length cR900), (14, .int .i64 t88.2), (15, .bool s93)] ∧ G = G' ∧ CR900 :: Cs70_1 :: CR250 :: [(b1, .cells #[.int .i64 a0.f0, .slice Aa0_f1 a0.f1.length ca0_f1, .slice Aa0_f2 a0.f2.length ca0_f2, .int .i64 a0.f3, .int .i64 a0.f4, .int .i64 a0.f5, .int .i64 a0.f6, .string a0.f7] 41 (0, 0))] :: Γ = Γ') ?_ ?_
              · clear hk94
                refine WP.region ?_
                refine WL.tell (op := .load 41 (.tmp 3)) (ty := 41) (d := some 86) (g := none) (by kernel_rfl) (by kernel_rfl) (by kernel_rfl) (Tells.load_box (i := 3) (b := b1) (o := 0) (agg := true) (by rfl) ag41 (by kernel_rfl) (fun h => by cases h) (Nat.le_of_ble_eq_true rfl) (v := .agg #[.int .i64 a0.f0, .slice Aa0_f1 a0.f1.length ca0_f1, .slice Aa0_f2 a0.f2.length ca0_f2, .int .i64 a0.f3, .int .i64 a0.f4, .int .i64 a0.f5, .int .i64 a0.f6, .string a0.f7]) (by kernel_rfl)) ?_
                refine WL.pure 1 2 [3, 7, 11, 12, 13, 14, 86, 87] (L' := [(3, .pointer (some ⟨b1, 0, none⟩)), (7, .slice AR250 t23.1.length cR250), (11, .slice As70_1 s70.1.length cs70_1), (12, .int .i64 s70.2), (13, .slice AR900 t88.1.length cR900), (14, .int .i64 t88.2), (86, .agg #[.int .i64 a0.f0, .slice Aa0_f1 a0.f1.length ca0_f1, .slice Aa0_f2 a0.f2.length ca0_f2, .int .i64 a0.f3, .int .i64 a0.f4, .int .i64 a0.f5, .int .i64 a0.f6, .string a0.f7]), (87, .int .i64 (IntKind.i64.wrap (1 + t19)))]) (by kernel_rfl) (by decide) ?_
                rw [Option.bind_eq_some_iff] at h
                obtain ⟨t95, ht96, h⟩ := h
                refine WL.op (op := .call { callee := (.value (.func 18)), args := #[(.tmp 86), (.tmp 87)], argTypes := #[41, 3] }) (ty := 4) (d := some 88) (g := none) (by kernel_rfl) (by kernel_rfl) (by kernel_rfl) (Does.call (f := 18) (args := [.agg #[.int .i64 a0.f0, .slice Aa0_f1 a0.f1.length ca0_f1, .slice Aa0_f2 a0.f2.length ca0_f2, .int .i64 a0.f3, .int .i64 a0.f4, .int .i64 a0.f5, .int .i64 a0.f6, .string a0.f7], .int .i64 (IntKind.i64.wrap (1 + t19))]) (by kernel_rfl) (fun W hI => (segment_May_calls HT k a0 (IntKind.i64.wrap (1 + t19)) Aa0_f1 ca0_f1 Ha0_f1 Aa0_f2 ca0_f2 Ha0_f2 t95 ht96 hI))) ?_
                rintro _ _ _ ⟨rfl, rfl, rfl⟩
                refine WL.pure 3 4 [3, 7, 11, 12, 13, 14, 89] (L' := [(3, .pointer (some ⟨b1, 0, none⟩)), (7, .slice AR250 t23.1.length cR250), (11, .slice As70_1 s70.1.length cs70_1), (12, .int .i64 s70.2), (13, .slice AR900 t88.1.length cR900), (14, .int .i64 t88.2), (89, .bool t95)]) (by kernel_rfl) (by decide) ?_
                refine WL.split 89 (b := t95) (by kernel_rfl) (fun hc => ?_) (fun hc => ?_)
                · replace hc := hc
                  rw [if_pos hc] at h
                  have hc99 := hc
                  clear hc
                  refine WL.pure 4 5 [3, 7, 11, 12, 13, 14, 89, 90] (L' := [(3, .pointer (some ⟨b1, 0, none⟩)), (7, .slice AR250 t23.1.length cR250), (11, .slice As70_1 s70.1.length cs70_1), (12, .int .i64 s70.2), (13, .slice AR900 t88.1.length cR900), (14, .int .i64 t88.2), (89, .bool true), (90, .pointer (some ⟨b1, 0, none⟩))]) (by kernel_rfl) (by decide) ?_
                  refine WL.tell (op := .load 3 (.tmp 90)) (ty := 3) (d := some 91) (g := some (3, true)) (by kernel_rfl) (by kernel_rfl) (by kernel_rfl) (Tells.load_box (i := 3) (b := b1) (o := 0) (agg := false) (by rfl) ag3 (by kernel_rfl) (fun _ => rfl) (Nat.le_of_ble_eq_true rfl) (v := .int .i64 a0.f0) (by kernel_rfl)) ?_
                  refine WL.rest 6 [3, 7, 11, 12, 13, 14, 15] (L' := [(3, .pointer (some ⟨b1, 0, none⟩)), (7, .slice AR250 t23.1.length cR250), (11, .slice As70_1 s70.1.length cs70_1), (12, .int .i64 s70.2), (13, .slice AR900 t88.1.length cR900), (14, .int .i64 t88.2), (15, .bool (a0.f0 != 1))]) (by kernel_rfl) ?_
                  refine QP.pick [3, 7, 11, 12, 13, 14, 15] ?_
                  exact QP.meet ⟨_, Option.some.inj h, rfl, rfl, rfl⟩
                · replace hc := (Bool.eq_false_iff.1 hc)
                  rw [if_neg hc] at h
                  have hc99 := hc
                  clear hc
                  refine WL.rest 4 [3, 7, 11, 12, 13, 14, 15] (L' := [(3, .pointer (some ⟨b1, 0, none⟩)), (7, .slice AR250 t23.1.length cR250), (11, .slice As70_1 s70.1.length cs70_1), (12, .int .i64 s70.2), (13, .slice AR900 t88.1.length cR900), (14, .int .i64 t88.2), (15, .bool false)]) (by kernel_rfl) ?_
                  refine QP.pick [3, 7, 11, 12, 13, 14, 15] ?_
                  exact QP.meet ⟨_, Option.some.inj h, rfl, rfl, rfl⟩
              · rintro _ _ _ ⟨s93, rfl, rfl, rfl, rfl⟩
                clear h
                replace h := hk94
                rw [Option.bind_eq_some_iff] at h
                obtain ⟨os100, h, hk101⟩ := h
                refine WP.cut (fun L' G' Γ' => ∃ s100 : Bool × T41, s100 = os100 ∧ ∃ (As100_2_f1 : Option Addr), ∃ (cs100_2_f1 : Nat), ∃ (As100_2_f2 : Option Addr), ∃ (cs100_2_f2 : Nat), L' = [(6, .bool s100.1)] ∧ G = G' ∧ [(b1, .cells #[.int .i64 s100.2.f0, .slice As100_2_f1 s100.2.f1.length cs100_2_f1, .slice As100_2_f2 s100.2.f2.length cs100_2_f2, .int .i64 s100.2.f3, .int .i64 s100.2.f4, .int .i64 s100.2.f5, .int .i64 s100.2.f6, .string s100.2.f7] 41 (0, 0))] :: Γ = Γ' ∧ Rd (kInt .i64) G As100_2_f1 cs100_2_f1 s100.2.f1 ∧ Rd (kInt .i64) G As100_2_f2 cs100_2_f2 s100.2.f2) ?_ ?_
                · clear hk101
                  refine WP.freezeN (i := 0) rfl (fun G102 hG103 hle104 nd105 => ?_)
                  have Hz106 := HR900.rdN (by rw [← hG103]; exact hle104) nd105
                  rw [← hG103] at Hz106
                  have Hm107 := HR250.mono hle104
                  have Hm108 := Hs70_1.mono hle104
                  have Hm109 := Ha0_f1.mono hle104
                  have Hm110 := Ha0_f2.mono hle104
                  skip
                  refine WP.any (N := 45) (S := [⟨some 94, [12], []⟩, ⟨some 95, [94], [0]⟩, ⟨some 96, [95], [1]⟩, ⟨some 97, [15, 96], [2]⟩, ⟨some 98, [96, 97], [2, 3]⟩, ⟨some 99, [13, 98], [4]⟩, ⟨some 100, [98, 99], [4, 5]⟩, ⟨some 101, [98, 100], [4, 6]⟩, ⟨some 102, [96, 98, 101], [2, 4, 7]⟩, ⟨some 103, [96, 102], [2, 4, 8]⟩, ⟨some 104, [13, 103], [9]⟩, ⟨some 105, [103, 104], [9, 10]⟩, ⟨some 106, [103, 105], [9, 11]⟩, ⟨some 107, [3, 103], [9]⟩, ⟨some 108, [103, 106, 107], [9, 12, 13]⟩, ⟨some 109, [96, 103, 108], [2, 9, 14]⟩, ⟨some 110, [96, 109], [2, 14, 15]⟩, ⟨some 111, [14, 110], [16]⟩, ⟨some 112, [11, 110], [16]⟩, ⟨some 113, [110, 112], [16, 18]⟩, ⟨some 114, [7, 110], [16]⟩, ⟨some 115, [110, 114], [16, 20]⟩, ⟨some 116, [110, 113, 115], [16, 19, 21]⟩, ⟨some 117, [110, 111, 116], [16, 17, 22]⟩, ⟨some 118, [96, 110, 117], [2, 16, 23]⟩, ⟨some 119, [96, 118], [2, 16, 24]⟩, ⟨some 120, [15, 119], [25]⟩, ⟨some 121, [119, 120], [25, 26]⟩, ⟨some 122, [119, 121], [25, 27]⟩, ⟨some 123, [13, 122], [28]⟩, ⟨some 124, [122, 123], [28, 29]⟩, ⟨some 125, [122, 124], [28, 30]⟩, ⟨some 126, [119, 122, 125], [25, 28, 31]⟩, ⟨some 127, [119, 126], [25, 28, 32]⟩, ⟨some 128, [14, 127], [33]⟩, ⟨some 129, [11, 127], [33]⟩, ⟨some 130, [127, 129], [33, 35]⟩, ⟨some 131, [127, 128, 130], [33, 34, 36]⟩, ⟨some 132, [119, 127, 131], [25, 33, 37]⟩, ⟨some 133, [96, 119, 132], [2, 25, 38]⟩, ⟨some 134, [96, 133], [2, 39]⟩, ⟨some 135, [134], [33, 40]⟩, ⟨some 136, [135], [41]⟩, ⟨some 137, [135, 136], [41, 42]⟩, ⟨some 6, [137], [0, 1, 2, 3, 4, 5, 6, 7, 8, 9, 10, 11, 12, 13, 14, 15, 16, 17, 18, 19, 20, 21, 22, 23, 24, 25, 26, 27, 28, 29, 30, 31, 32, 33, 34, 35, 36, 37, 38, 39, 40, 41, 42, 43]⟩]) (kw := 45) (G0 := G102) (Γ0 := [] :: Cs70_1 :: CR250 :: [(b1, .cells #[.int .i64 a0.f0, .slice Aa0_f1 a0.f1.length ca0_f1, .slice Aa0_f2 a0.f2.length ca0_f2, .int .i64 a0.f3, .int .i64 a0.f4, .int .i64 a0.f5, .int .i64 a0.f6, .string a0.f7] 41 (0, 0))] :: Γ) mo (by kernel_rfl) (fun hS => ?_)
                  refine WA.pure [0, 1, 2] [3, 7, 11, 13, 14, 15, 96] (m := 42) (b' := 7) (L' := [(3, .pointer (some ⟨b1, 0, none⟩)), (7, .slice AR250 t23.1.length cR250), (11, .slice As70_1 s70.1.length cs70_1), (13, .slice AR900 t88.1.length cR900), (14, .int .i64 t88.2), (15, .bool s93), (96, .bool (s70.2 == 0))]) (by kernel_rfl) (NoPanic.then (NoPanic.body)) Under.refl hS (by kernel_rfl) ?_
                  refine WA.split 96 (b := (s70.2 == 0)) (by kernel_rfl) (fun hc => ?_) (fun hc => ?_)
                  · replace hc := eq_of_beq hc
                    rw [if_pos hc] at h
                    have hc111 := hc
                    clear hc
                    refine WA.pure [3, 4] [3, 7, 11, 13, 14, 15, 96, 98] (m := 40) (b' := 31) (L' := [(3, .pointer (some ⟨b1, 0, none⟩)), (7, .slice AR250 t23.1.length cR250), (11, .slice As70_1 s70.1.length cs70_1), (13, .slice AR900 t88.1.length cR900), (14, .int .i64 t88.2), (15, .bool s93), (96, .bool true), (98, .bool s93)]) (by kernel_rfl) (NoPanic.then (NoPanic.body)) Under.refl hS (by kernel_rfl) ?_
                    refine WA.split 98 (b := s93) (by kernel_rfl) (fun hc => ?_) (fun hc => ?_)
                    · replace hc := hc
                      rw [if_pos hc] at h
                      have hc112 := hc
                      clear hc
                      refine WA.pure [5, 6, 7, 8, 9] [3, 7, 11, 13, 14, 15, 96, 103] (m := 35) (b' := 1023) (L' := [(3, .pointer (some ⟨b1, 0, none⟩)), (7, .slice AR250 t23.1.length cR250), (11, .slice As70_1 s70.1.length cs70_1), (13, .slice AR900 t88.1.length cR900), (14, .int .i64 t88.2), (15, .bool s93), (96, .bool true), (103, .bool ((t88.1.length : Int) == 2))]) (by kernel_rfl) (NoPanic.then (NoPanic.body)) Under.refl hS (by kernel_rfl) ?_
                      refine WA.split 103 (b := ((t88.1.length : Int) == 2)) (by kernel_rfl) (fun hc => ?_) (fun hc => ?_)
                      · replace hc := eq_of_beq hc
                        rw [if_pos hc] at h
                        have hc113 := hc
                        clear hc
                        refine WA.pure [10] [3, 7, 11, 13, 14, 15, 96, 103, 104] (m := 34) (b' := 2047) (L' := [(3, .pointer (some ⟨b1, 0, none⟩)), (7, .slice AR250 t23.1.length cR250), (11, .slice As70_1 s70.1.length cs70_1), (13, .slice AR900 t88.1.length cR900), (14, .int .i64 t88.2), (15, .bool s93), (96, .bool true), (103, .bool true), (104, .slice AR900 t88.1.length cR900)]) (by kernel_rfl) (NoPanic.then (NoPanic.body)) Under.refl hS (by kernel_rfl) ?_
                        by_cases hb114 : 0 ≤ (1 : Int) ∧ (1 : Int) < (t88.1.length : Int)
                        case neg => rw [if_neg hb114] at h; cases h
                        rw [if_pos hb114] at h
                        refine WA.tellD [] (i := 11) (m := 33) (b' := 4095) (by kernel_rfl) (NoPanic.then (NoPanic.body)) Under.refl hS (by kernel_rfl) (op := .indexAddr 25 (.tmp 104) (.const (.int .i64 1))) (ty := 0) (d := some 105) (g := some (9, true)) (by kernel_rfl) (by kernel_rfl) (by kernel_rfl) (Tells.indexAddr (A := AR900) (n := t88.1.length) (c := cR900) (k := .i64) (j := 1) (by kernel_rfl) (by kernel_rfl) (Hz106.isSome hb114.1 hb114.2) hb114.1 hb114.2 sl25) ?_
                        refine WA.tellDE [] (i := 12) (m := 32) (b' := 8191) (by kernel_rfl) (NoPanic.then (NoPanic.body)) Under.refl hS (by kernel_rfl) (op := .load 41 (.tmp 105)) (ty := 41) (d := some 106) (g := some (9, true)) (by kernel_rfl) (by kernel_rfl) (by kernel_rfl) (Hz106.load (agg := true) hb114.1 hb114.2 z41 ag41 (fun h => by cases h) (by kernel_rfl)) ?_
                        rintro _ ⟨_, _, rfl, rfl, ⟨_, _, rfl, ⟨Ae115, ce115, rfl, He115⟩, ⟨_, _, rfl, ⟨Ae116, ce116, rfl, He116⟩, ⟨_, _, rfl, rfl, ⟨_, _, rfl, rfl, ⟨_, _, rfl, rfl, ⟨_, _, rfl, rfl, rfl⟩⟩⟩⟩⟩⟩⟩
                        replace He115 : Rd (kInt .i64) G102 Ae115 ce115 ((t88.1.getD (1 : Int).toNat z41).f1) := He115
                        replace He116 : Rd (kInt .i64) G102 Ae116 ce116 ((t88.1.getD (1 : Int).toNat z41).f2) := He116
                        refine WA.tellD [] (i := 13) (m := 31) (b' := 16383) (by kernel_rfl) (NoPanic.then (NoPanic.body)) Under.refl hS (by kernel_rfl) (op := .load 41 (.tmp 3)) (ty := 41) (d := some 107) (g := some (9, true)) (by kernel_rfl) (by kernel_rfl) (by kernel_rfl) (Tells.load_box (i := 3) (b := b1) (o := 0) (agg := true) (by rfl) ag41 (by kernel_rfl) (fun h => by cases h) (Nat.le_of_ble_eq_true rfl) (v := .agg #[.int .i64 a0.f0, .slice Aa0_f1 a0.f1.length ca0_f1, .slice Aa0_f2 a0.f2.length ca0_f2, .int .i64 a0.f3, .int .i64 a0.f4, .int .i64 a0.f5, .int .i64 a0.f6, .string a0.f7]) (by kernel_rfl)) ?_
                        rw [Option.bind_eq_some_iff] at h
                        obtain ⟨t117, ht118, h⟩ := h
                        refine WA.op (i := 14) (m := 30) (b' := 32767) (by kernel_rfl) hS (by kernel_rfl) (op := .call { callee := (.value (.func 23)), args := #[(.tmp 106), (.tmp 107)], argTypes := #[41, 41] }) (ty := 4) (d := some 108) (g := some (9, true)) (by kernel_rfl) (by kernel_rfl) (by kernel_rfl) (Does.call (f := 23) (args := [.agg #[.int .i64 ((t88.1.getD (1 : Int).toNat z41).f0), .slice Ae115 ((t88.1.getD (1 : Int).toNat z41).f1).length ce115, .slice Ae116 ((t88.1.getD (1 : Int).toNat z41).f2).length ce116, .int .i64 ((t88.1.getD (1 : Int).toNat z41).f3), .int .i64 ((t88.1.getD (1 : Int).toNat z41).f4), .int .i64 ((t88.1.getD (1 : Int).toNat z41).f5), .int .i64 ((t88.1.getD (1 : Int).toNat z41).f6), .string ((t88.1.getD (1 : Int).toNat z41).f7)], .agg #[.int .i64 a0.f0, .slice Aa0_f1 a0.f1.length ca0_f1, .slice Aa0_f2 a0.f2.length ca0_f2, .int .i64 a0.f3, .int .i64 a0.f4, .int .i64 a0.f5, .int .i64 a0.f6, .string a0.f7]]) (by kernel_rfl) (fun W hI => (segment_Same_calls k (t88.1.getD (1 : Int).toNat z41) a0 Ae115 ce115 He115 Ae116 ce116 He116 Aa0_f1 ca0_f1 Hm109 Aa0_f2 ca0_f2 Hm110 t117 ht118 hI))) ?_
                        rintro _ _ _ ⟨rfl, rfl, rfl⟩
                        refine ⟨_, _, Under.refl, Under.refl, ?_⟩
                        refine WA.pure [15, 16] [7, 11, 13, 14, 15, 96, 110] (m := 28) (b' := 131071) (L' := [(7, .slice AR250 t23.1.length cR250), (11, .slice As70_1 s70.1.length cs70_1), (13, .slice AR900 t88.1.length cR900), (14, .int .i64 t88.2), (15, .bool s93), (96, .bool true), (110, .bool t117)]) (by kernel_rfl) (NoPanic.then (NoPanic.body)) Under.refl hS (by kernel_rfl) ?_
                        refine WA.split 110 (b := t117) (by kernel_rfl) (fun hc => ?_) (fun hc => ?_)
                        · replace hc := hc
                          rw [if_pos hc] at h
                          have hc121 := hc
                          clear hc
                          refine WA.pure [17, 18, 19, 20, 21, 22, 23, 24, 25] [11, 13, 14, 15, 96, 119] (m := 19) (b' := 67108863) (L' := [(11, .slice As70_1 s70.1.length cs70_1), (13, .slice AR900 t88.1.length cR900), (14, .int .i64 t88.2), (15, .bool s93), (96, .bool true), (119, .bool (t88.2 == (IntKind.i64.wrap ((s70.1.length : Int) + (t23.1.length : Int)))))]) (by kernel_rfl) (NoPanic.then (NoPanic.body)) Under.refl hS (by kernel_rfl) ?_
                          refine WA.split 119 (b := (t88.2 == (IntKind.i64.wrap ((s70.1.length : Int) + (t23.1.length : Int))))) (by kernel_rfl) (fun hc => ?_) (fun hc => ?_)
                          · replace hc := eq_of_beq hc
                            rw [if_pos hc] at h
                            have hc122 := hc
                            clear hc
                            refine WA.pure [26, 27, 28, 29, 30, 31, 32, 33, 34, 35, 36, 37, 38, 39, 40, 41] [135] (m := 3) (b' := 4398046511103) (L' := [(135, .bool true)]) (by kernel_rfl) (NoPanic.then (NoPanic.body)) Under.refl hS (by kernel_rfl) ?_
                            rw [Option.bind_eq_some_iff] at h
                            obtain ⟨t123, ht124, h⟩ := h
                            refine WA.op (i := 42) (m := 2) (b' := 8796093022207) (by kernel_rfl) hS (by kernel_rfl) (op := .call { callee := (.value (.func 10)), args := #[], argTypes := #[] }) (ty := 4) (d := some 136) (g := some (41, true)) (by kernel_rfl) (by kernel_rfl) (by kernel_rfl) (Does.call (f := 10) (args := []) (by kernel_rfl) (fun W hI => (grapevinelaw8_awake_calls (HT.mono hle104) k   t123 ht124 hI))) ?_
                            rintro _ _ _ ⟨rfl, rfl, rfl⟩
                            refine ⟨_, _, Under.refl, Under.refl, ?_⟩
                            refine WA.pure [43, 44] [6] (m := 0) (b' := 35184372088831) (L' := [(6, .bool t123)]) (by kernel_rfl) (NoPanic.then (NoPanic.body)) Under.refl hS (by kernel_rfl) ?_
                            refine WA.done hS (by kernel_rfl) ?_
                            refine QP.pick [6] ?_
                            refine QP.dropAt 2 ?_
                            refine QP.dropAt 1 ?_
                            refine QP.dropAt 0 ?_
                            refine QP.lower hle104 ?_
                            refine QP.pick [6] ?_
                            exact QP.meet ⟨_, Option.some.inj h, Aa0_f1, ca0_f1, Aa0_f2, ca0_f2, rfl, rfl, rfl, Ha0_f1, Ha0_f2⟩
                          · replace hc := ne_of_beq_false hc
                            rw [if_neg hc] at h
                            have hc122 := hc
                            clear hc
                            refine WA.pure [26, 27, 28] [11, 13, 14, 96, 119, 122] (m := 16) (b' := 536870911) (L' := [(11, .slice As70_1 s70.1.length cs70_1), (13, .slice AR900 t88.1.length cR900), (14, .int .i64 t88.2), (96, .bool true), (119, .bool false), (122, .bool (!s93))]) (by kernel_rfl) (NoPanic.then (NoPanic.body)) Under.refl hS (by kernel_rfl) ?_
                            refine WA.split 122 (b := (!s93)) (by kernel_rfl) (fun hc => ?_) (fun hc => ?_)
                            · replace hc := hc
                              rw [if_pos hc] at h
                              have hc127 := hc
                              clear hc
                              refine WA.pure [29, 30, 31, 32, 33] [11, 14, 96, 119, 127] (m := 11) (b' := 17179869183) (L' := [(11, .slice As70_1 s70.1.length cs70_1), (14, .int .i64 t88.2), (96, .bool true), (119, .bool false), (127, .bool ((t88.1.length : Int) == 1))]) (by kernel_rfl) (NoPanic.then (NoPanic.body)) Under.refl hS (by kernel_rfl) ?_
                              refine WA.split 127 (b := ((t88.1.length : Int) == 1)) (by kernel_rfl) (fun hc => ?_) (fun hc => ?_)
                              · replace hc := eq_of_beq hc
                                rw [if_pos hc] at h
                                have hc128 := hc
                                clear hc
                                refine WA.pure [34, 35, 36, 37, 38, 39, 40, 41] [135] (m := 3) (b' := 4398046511103) (L' := [(135, .bool (t88.2 == (s70.1.length : Int)))]) (by kernel_rfl) (NoPanic.then (NoPanic.body)) Under.refl hS (by kernel_rfl) ?_
                                refine WA.split 135 (b := (t88.2 == (s70.1.length : Int))) (by kernel_rfl) (fun hc => ?_) (fun hc => ?_)
                                · replace hc := eq_of_beq hc
                                  rw [if_pos hc] at h
                                  have hc129 := hc
                                  clear hc
                                  rw [Option.bind_eq_some_iff] at h
                                  obtain ⟨t130, ht131, h⟩ := h
                                  refine WA.op (i := 42) (m := 2) (b' := 8796093022207) (by kernel_rfl) hS (by kernel_rfl) (op := .call { callee := (.value (.func 10)), args := #[], argTypes := #[] }) (ty := 4) (d := some 136) (g := some (41, true)) (by kernel_rfl) (by kernel_rfl) (by kernel_rfl) (Does.call (f := 10) (args := []) (by kernel_rfl) (fun W hI => (grapevinelaw8_awake_calls (HT.mono hle104) k   t130 ht131 hI))) ?_
                                  rintro _ _ _ ⟨rfl, rfl, rfl⟩
                                  refine ⟨_, _, Under.refl, Under.refl, ?_⟩
                                  refine WA.pure [43, 44] [6] (m := 0) (b' := 35184372088831) (L' := [(6, .bool t130)]) (by kernel_rfl) (NoPanic.then (NoPanic.body)) Under.refl hS (by kernel_rfl) ?_
                                  refine WA.done hS (by kernel_rfl) ?_
                                  refine QP.pick [6] ?_
                                  refine QP.dropAt 2 ?_
                                  refine QP.dropAt 1 ?_
                                  refine QP.dropAt 0 ?_
                                  refine QP.lower hle104 ?_
                                  refine QP.pick [6] ?_
                                  exact QP.meet ⟨_, Option.some.inj h, Aa0_f1, ca0_f1, Aa0_f2, ca0_f2, rfl, rfl, rfl, Ha0_f1, Ha0_f2⟩
                                · replace hc := ne_of_beq_false hc
                                  rw [if_neg hc] at h
                                  have hc129 := hc
                                  clear hc
                                  refine WA.pure [42, 43, 44] [6] (m := 0) (b' := 35184372088831) (L' := [(6, .bool false)]) (by kernel_rfl) (NoPanic.then (NoPanic.body)) Under.refl hS (by kernel_rfl) ?_
                                  refine WA.done hS (by kernel_rfl) ?_
                                  refine QP.pick [6] ?_
                                  refine QP.dropAt 2 ?_
                                  refine QP.dropAt 1 ?_
                                  refine QP.dropAt 0 ?_
                                  refine QP.lower hle104 ?_
                                  refine QP.pick [6] ?_
                                  exact QP.meet ⟨_, Option.some.inj h, Aa0_f1, ca0_f1, Aa0_f2, ca0_f2, rfl, rfl, rfl, Ha0_f1, Ha0_f2⟩
                              · replace hc := ne_of_beq_false hc
                                rw [if_neg hc] at h
                                have hc128 := hc
                                clear hc
                                refine WA.pure [34, 35, 36, 37, 38, 39, 40, 41, 42, 43, 44] [6] (m := 0) (b' := 35184372088831) (L' := [(6, .bool false)]) (by kernel_rfl) (NoPanic.then (NoPanic.body)) Under.refl hS (by kernel_rfl) ?_
                                refine WA.done hS (by kernel_rfl) ?_
                                refine QP.pick [6] ?_
                                refine QP.dropAt 2 ?_
                                refine QP.dropAt 1 ?_
                                refine QP.dropAt 0 ?_
                                refine QP.lower hle104 ?_
                                refine QP.pick [6] ?_
                                exact QP.meet ⟨_, Option.some.inj h, Aa0_f1, ca0_f1, Aa0_f2, ca0_f2, rfl, rfl, rfl, Ha0_f1, Ha0_f2⟩
                            · replace hc := (Bool.eq_false_iff.1 hc)
                              rw [if_neg hc] at h
                              have hc127 := hc
                              clear hc
                              refine WA.pure [29, 30, 31, 32, 33, 34, 35, 36, 37, 38, 39, 40, 41, 42, 43, 44] [6] (m := 0) (b' := 35184372088831) (L' := [(6, .bool false)]) (by kernel_rfl) (NoPanic.then (NoPanic.body)) Under.refl hS (by kernel_rfl) ?_
                              refine WA.done hS (by kernel_rfl) ?_
                              refine QP.pick [6] ?_
                              refine QP.dropAt 2 ?_
                              refine QP.dropAt 1 ?_
                              refine QP.dropAt 0 ?_
                              refine QP.lower hle104 ?_
                              refine QP.pick [6] ?_
                              exact QP.meet ⟨_, Option.some.inj h, Aa0_f1, ca0_f1, Aa0_f2, ca0_f2, rfl, rfl, rfl, Ha0_f1, Ha0_f2⟩
                        · replace hc := (Bool.eq_false_iff.1 hc)
                          rw [if_neg hc] at h
                          have hc121 := hc
                          clear hc
                          refine WA.pure [17, 18, 19, 20, 21, 22, 23, 24, 25, 26, 27, 28] [11, 13, 14, 96, 119, 122] (m := 16) (b' := 536870911) (L' := [(11, .slice As70_1 s70.1.length cs70_1), (13, .slice AR900 t88.1.length cR900), (14, .int .i64 t88.2), (96, .bool true), (119, .bool false), (122, .bool (!s93))]) (by kernel_rfl) (NoPanic.then (NoPanic.body)) Under.refl hS (by kernel_rfl) ?_
                          refine WA.split 122 (b := (!s93)) (by kernel_rfl) (fun hc => ?_) (fun hc => ?_)
                          · replace hc := hc
                            rw [if_pos hc] at h
                            have hc134 := hc
                            clear hc
                            refine WA.pure [29, 30, 31, 32, 33] [11, 14, 96, 119, 127] (m := 11) (b' := 17179869183) (L' := [(11, .slice As70_1 s70.1.length cs70_1), (14, .int .i64 t88.2), (96, .bool true), (119, .bool false), (127, .bool ((t88.1.length : Int) == 1))]) (by kernel_rfl) (NoPanic.then (NoPanic.body)) Under.refl hS (by kernel_rfl) ?_
                            refine WA.split 127 (b := ((t88.1.length : Int) == 1)) (by kernel_rfl) (fun hc => ?_) (fun hc => ?_)
                            · replace hc := eq_of_beq hc
                              rw [if_pos hc] at h
                              have hc135 := hc
                              clear hc
                              refine WA.pure [34, 35, 36, 37, 38, 39, 40, 41] [135] (m := 3) (b' := 4398046511103) (L' := [(135, .bool (t88.2 == (s70.1.length : Int)))]) (by kernel_rfl) (NoPanic.then (NoPanic.body)) Under.refl hS (by kernel_rfl) ?_
                              refine WA.split 135 (b := (t88.2 == (s70.1.length : Int))) (by kernel_rfl) (fun hc => ?_) (fun hc => ?_)
                              · replace hc := eq_of_beq hc
                                rw [if_pos hc] at h
                                have hc136 := hc
                                clear hc
                                rw [Option.bind_eq_some_iff] at h
                                obtain ⟨t137, ht138, h⟩ := h
                                refine WA.op (i := 42) (m := 2) (b' := 8796093022207) (by kernel_rfl) hS (by kernel_rfl) (op := .call { callee := (.value (.func 10)), args := #[], argTypes := #[] }) (ty := 4) (d := some 136) (g := some (41, true)) (by kernel_rfl) (by kernel_rfl) (by kernel_rfl) (Does.call (f := 10) (args := []) (by kernel_rfl) (fun W hI => (grapevinelaw8_awake_calls (HT.mono hle104) k   t137 ht138 hI))) ?_
                                rintro _ _ _ ⟨rfl, rfl, rfl⟩
                                refine ⟨_, _, Under.refl, Under.refl, ?_⟩
                                refine WA.pure [43, 44] [6] (m := 0) (b' := 35184372088831) (L' := [(6, .bool t137)]) (by kernel_rfl) (NoPanic.then (NoPanic.body)) Under.refl hS (by kernel_rfl) ?_
                                refine WA.done hS (by kernel_rfl) ?_
                                refine QP.pick [6] ?_
                                refine QP.dropAt 2 ?_
                                refine QP.dropAt 1 ?_
                                refine QP.dropAt 0 ?_
                                refine QP.lower hle104 ?_
                                refine QP.pick [6] ?_
                                exact QP.meet ⟨_, Option.some.inj h, Aa0_f1, ca0_f1, Aa0_f2, ca0_f2, rfl, rfl, rfl, Ha0_f1, Ha0_f2⟩
                              · replace hc := ne_of_beq_false hc
                                rw [if_neg hc] at h
                                have hc136 := hc
                                clear hc
                                refine WA.pure [42, 43, 44] [6] (m := 0) (b' := 35184372088831) (L' := [(6, .bool false)]) (by kernel_rfl) (NoPanic.then (NoPanic.body)) Under.refl hS (by kernel_rfl) ?_
                                refine WA.done hS (by kernel_rfl) ?_
                                refine QP.pick [6] ?_
                                refine QP.dropAt 2 ?_
                                refine QP.dropAt 1 ?_
                                refine QP.dropAt 0 ?_
                                refine QP.lower hle104 ?_
                                refine QP.pick [6] ?_
                                exact QP.meet ⟨_, Option.some.inj h, Aa0_f1, ca0_f1, Aa0_f2, ca0_f2, rfl, rfl, rfl, Ha0_f1, Ha0_f2⟩
                            · replace hc := ne_of_beq_false hc
                              rw [if_neg hc] at h
                              have hc135 := hc
                              clear hc
                              refine WA.pure [34, 35, 36, 37, 38, 39, 40, 41, 42, 43, 44] [6] (m := 0) (b' := 35184372088831) (L' := [(6, .bool false)]) (by kernel_rfl) (NoPanic.then (NoPanic.body)) Under.refl hS (by kernel_rfl) ?_
                              refine WA.done hS (by kernel_rfl) ?_
                              refine QP.pick [6] ?_
                              refine QP.dropAt 2 ?_
                              refine QP.dropAt 1 ?_
                              refine QP.dropAt 0 ?_
                              refine QP.lower hle104 ?_
                              refine QP.pick [6] ?_
                              exact QP.meet ⟨_, Option.some.inj h, Aa0_f1, ca0_f1, Aa0_f2, ca0_f2, rfl, rfl, rfl, Ha0_f1, Ha0_f2⟩
                          · replace hc := (Bool.eq_false_iff.1 hc)
                            rw [if_neg hc] at h
                            have hc134 := hc
                            clear hc
                            refine WA.pure [29, 30, 31, 32, 33, 34, 35, 36, 37, 38, 39, 40, 41, 42, 43, 44] [6] (m := 0) (b' := 35184372088831) (L' := [(6, .bool false)]) (by kernel_rfl) (NoPanic.then (NoPanic.body)) Under.refl hS (by kernel_rfl) ?_
                            refine WA.done hS (by kernel_rfl) ?_
                            refine QP.pick [6] ?_
                            refine QP.dropAt 2 ?_
                            refine QP.dropAt 1 ?_
                            refine QP.dropAt 0 ?_
                            refine QP.lower hle104 ?_
                            refine QP.pick [6] ?_
                            exact QP.meet ⟨_, Option.some.inj h, Aa0_f1, ca0_f1, Aa0_f2, ca0_f2, rfl, rfl, rfl, Ha0_f1, Ha0_f2⟩
                      · replace hc := ne_of_beq_false hc
                        rw [if_neg hc] at h
                        have hc113 := hc
                        clear hc
                        refine WA.pure [10, 11, 12, 13, 14, 15, 16, 17, 18, 19, 20, 21, 22, 23, 24, 25, 26, 27, 28] [11, 13, 14, 96, 119, 122] (m := 16) (b' := 536870911) (L' := [(11, .slice As70_1 s70.1.length cs70_1), (13, .slice AR900 t88.1.length cR900), (14, .int .i64 t88.2), (96, .bool true), (119, .bool false), (122, .bool (!s93))]) (by kernel_rfl) (NoPanic.then (NoPanic.body)) Under.refl hS (by kernel_rfl) ?_
                        refine WA.split 122 (b := (!s93)) (by kernel_rfl) (fun hc => ?_) (fun hc => ?_)
                        · replace hc := hc
                          rw [if_pos hc] at h
                          have hc141 := hc
                          clear hc
                          refine WA.pure [29, 30, 31, 32, 33] [11, 14, 96, 119, 127] (m := 11) (b' := 17179869183) (L' := [(11, .slice As70_1 s70.1.length cs70_1), (14, .int .i64 t88.2), (96, .bool true), (119, .bool false), (127, .bool ((t88.1.length : Int) == 1))]) (by kernel_rfl) (NoPanic.then (NoPanic.body)) Under.refl hS (by kernel_rfl) ?_
                          refine WA.split 127 (b := ((t88.1.length : Int) == 1)) (by kernel_rfl) (fun hc => ?_) (fun hc => ?_)
                          · replace hc := eq_of_beq hc
                            rw [if_pos hc] at h
                            have hc142 := hc
                            clear hc
                            refine WA.pure [34, 35, 36, 37, 38, 39, 40, 41] [135] (m := 3) (b' := 4398046511103) (L' := [(135, .bool (t88.2 == (s70.1.length : Int)))]) (by kernel_rfl) (NoPanic.then (NoPanic.body)) Under.refl hS (by kernel_rfl) ?_
                            refine WA.split 135 (b := (t88.2 == (s70.1.length : Int))) (by kernel_rfl) (fun hc => ?_) (fun hc => ?_)
                            · replace hc := eq_of_beq hc
                              rw [if_pos hc] at h
                              have hc143 := hc
                              clear hc
                              rw [Option.bind_eq_some_iff] at h
                              obtain ⟨t144, ht145, h⟩ := h
                              refine WA.op (i := 42) (m := 2) (b' := 8796093022207) (by kernel_rfl) hS (by kernel_rfl) (op := .call { callee := (.value (.func 10)), args := #[], argTypes := #[] }) (ty := 4) (d := some 136) (g := some (41, true)) (by kernel_rfl) (by kernel_rfl) (by kernel_rfl) (Does.call (f := 10) (args := []) (by kernel_rfl) (fun W hI => (grapevinelaw8_awake_calls (HT.mono hle104) k   t144 ht145 hI))) ?_
                              rintro _ _ _ ⟨rfl, rfl, rfl⟩
                              refine ⟨_, _, Under.refl, Under.refl, ?_⟩
                              refine WA.pure [43, 44] [6] (m := 0) (b' := 35184372088831) (L' := [(6, .bool t144)]) (by kernel_rfl) (NoPanic.then (NoPanic.body)) Under.refl hS (by kernel_rfl) ?_
                              refine WA.done hS (by kernel_rfl) ?_
                              refine QP.pick [6] ?_
                              refine QP.dropAt 2 ?_
                              refine QP.dropAt 1 ?_
                              refine QP.dropAt 0 ?_
                              refine QP.lower hle104 ?_
                              refine QP.pick [6] ?_
                              exact QP.meet ⟨_, Option.some.inj h, Aa0_f1, ca0_f1, Aa0_f2, ca0_f2, rfl, rfl, rfl, Ha0_f1, Ha0_f2⟩
                            · replace hc := ne_of_beq_false hc
                              rw [if_neg hc] at h
                              have hc143 := hc
                              clear hc
                              refine WA.pure [42, 43, 44] [6] (m := 0) (b' := 35184372088831) (L' := [(6, .bool false)]) (by kernel_rfl) (NoPanic.then (NoPanic.body)) Under.refl hS (by kernel_rfl) ?_
                              refine WA.done hS (by kernel_rfl) ?_
                              refine QP.pick [6] ?_
                              refine QP.dropAt 2 ?_
                              refine QP.dropAt 1 ?_
                              refine QP.dropAt 0 ?_
                              refine QP.lower hle104 ?_
                              refine QP.pick [6] ?_
                              exact QP.meet ⟨_, Option.some.inj h, Aa0_f1, ca0_f1, Aa0_f2, ca0_f2, rfl, rfl, rfl, Ha0_f1, Ha0_f2⟩
                          · replace hc := ne_of_beq_false hc
                            rw [if_neg hc] at h
                            have hc142 := hc
                            clear hc
                            refine WA.pure [34, 35, 36, 37, 38, 39, 40, 41, 42, 43, 44] [6] (m := 0) (b' := 35184372088831) (L' := [(6, .bool false)]) (by kernel_rfl) (NoPanic.then (NoPanic.body)) Under.refl hS (by kernel_rfl) ?_
                            refine WA.done hS (by kernel_rfl) ?_
                            refine QP.pick [6] ?_
                            refine QP.dropAt 2 ?_
                            refine QP.dropAt 1 ?_
                            refine QP.dropAt 0 ?_
                            refine QP.lower hle104 ?_
                            refine QP.pick [6] ?_
                            exact QP.meet ⟨_, Option.some.inj h, Aa0_f1, ca0_f1, Aa0_f2, ca0_f2, rfl, rfl, rfl, Ha0_f1, Ha0_f2⟩
                        · replace hc := (Bool.eq_false_iff.1 hc)
                          rw [if_neg hc] at h
                          have hc141 := hc
                          clear hc
                          refine WA.pure [29, 30, 31, 32, 33, 34, 35, 36, 37, 38, 39, 40, 41, 42, 43, 44] [6] (m := 0) (b' := 35184372088831) (L' := [(6, .bool false)]) (by kernel_rfl) (NoPanic.then (NoPanic.body)) Under.refl hS (by kernel_rfl) ?_
                          refine WA.done hS (by kernel_rfl) ?_
                          refine QP.pick [6] ?_
                          refine QP.dropAt 2 ?_
                          refine QP.dropAt 1 ?_
                          refine QP.dropAt 0 ?_
                          refine QP.lower hle104 ?_
                          refine QP.pick [6] ?_
                          exact QP.meet ⟨_, Option.some.inj h, Aa0_f1, ca0_f1, Aa0_f2, ca0_f2, rfl, rfl, rfl, Ha0_f1, Ha0_f2⟩
                    · replace hc := (Bool.eq_false_iff.1 hc)
                      rw [if_neg hc] at h
                      have hc112 := hc
                      clear hc
                      refine WA.pure [5, 6, 7, 8, 9, 10, 11, 12, 13, 14, 15, 16, 17, 18, 19, 20, 21, 22, 23, 24, 25, 26, 27, 28] [11, 13, 14, 96, 119, 122] (m := 16) (b' := 536870911) (L' := [(11, .slice As70_1 s70.1.length cs70_1), (13, .slice AR900 t88.1.length cR900), (14, .int .i64 t88.2), (96, .bool true), (119, .bool false), (122, .bool (!s93))]) (by kernel_rfl) (NoPanic.then (NoPanic.body)) Under.refl hS (by kernel_rfl) ?_
                      refine WA.split 122 (b := (!s93)) (by kernel_rfl) (fun hc => ?_) (fun hc => ?_)
                      · replace hc := hc
                        rw [if_pos hc] at h
                        have hc148 := hc
                        clear hc
                        refine WA.pure [29, 30, 31, 32, 33] [11, 14, 96, 119, 127] (m := 11) (b' := 17179869183) (L' := [(11, .slice As70_1 s70.1.length cs70_1), (14, .int .i64 t88.2), (96, .bool true), (119, .bool false), (127, .bool ((t88.1.length : Int) == 1))]) (by kernel_rfl) (NoPanic.then (NoPanic.body)) Under.refl hS (by kernel_rfl) ?_
                        refine WA.split 127 (b := ((t88.1.length : Int) == 1)) (by kernel_rfl) (fun hc => ?_) (fun hc => ?_)
                        · replace hc := eq_of_beq hc
                          rw [if_pos hc] at h
                          have hc149 := hc
                          clear hc
                          refine WA.pure [34, 35, 36, 37, 38, 39, 40, 41] [135] (m := 3) (b' := 4398046511103) (L' := [(135, .bool (t88.2 == (s70.1.length : Int)))]) (by kernel_rfl) (NoPanic.then (NoPanic.body)) Under.refl hS (by kernel_rfl) ?_
                          refine WA.split 135 (b := (t88.2 == (s70.1.length : Int))) (by kernel_rfl) (fun hc => ?_) (fun hc => ?_)
                          · replace hc := eq_of_beq hc
                            rw [if_pos hc] at h
                            have hc150 := hc
                            clear hc
                            rw [Option.bind_eq_some_iff] at h
                            obtain ⟨t151, ht152, h⟩ := h
                            refine WA.op (i := 42) (m := 2) (b' := 8796093022207) (by kernel_rfl) hS (by kernel_rfl) (op := .call { callee := (.value (.func 10)), args := #[], argTypes := #[] }) (ty := 4) (d := some 136) (g := some (41, true)) (by kernel_rfl) (by kernel_rfl) (by kernel_rfl) (Does.call (f := 10) (args := []) (by kernel_rfl) (fun W hI => (grapevinelaw8_awake_calls (HT.mono hle104) k   t151 ht152 hI))) ?_
                            rintro _ _ _ ⟨rfl, rfl, rfl⟩
                            refine ⟨_, _, Under.refl, Under.refl, ?_⟩
                            refine WA.pure [43, 44] [6] (m := 0) (b' := 35184372088831) (L' := [(6, .bool t151)]) (by kernel_rfl) (NoPanic.then (NoPanic.body)) Under.refl hS (by kernel_rfl) ?_
                            refine WA.done hS (by kernel_rfl) ?_
                            refine QP.pick [6] ?_
                            refine QP.dropAt 2 ?_
                            refine QP.dropAt 1 ?_
                            refine QP.dropAt 0 ?_
                            refine QP.lower hle104 ?_
                            refine QP.pick [6] ?_
                            exact QP.meet ⟨_, Option.some.inj h, Aa0_f1, ca0_f1, Aa0_f2, ca0_f2, rfl, rfl, rfl, Ha0_f1, Ha0_f2⟩
                          · replace hc := ne_of_beq_false hc
                            rw [if_neg hc] at h
                            have hc150 := hc
                            clear hc
                            refine WA.pure [42, 43, 44] [6] (m := 0) (b' := 35184372088831) (L' := [(6, .bool false)]) (by kernel_rfl) (NoPanic.then (NoPanic.body)) Under.refl hS (by kernel_rfl) ?_
                            refine WA.done hS (by kernel_rfl) ?_
                            refine QP.pick [6] ?_
                            refine QP.dropAt 2 ?_
                            refine QP.dropAt 1 ?_
                            refine QP.dropAt 0 ?_
                            refine QP.lower hle104 ?_
                            refine QP.pick [6] ?_
                            exact QP.meet ⟨_, Option.some.inj h, Aa0_f1, ca0_f1, Aa0_f2, ca0_f2, rfl, rfl, rfl, Ha0_f1, Ha0_f2⟩
                        · replace hc := ne_of_beq_false hc
                          rw [if_neg hc] at h
                          have hc149 := hc
                          clear hc
                          refine WA.pure [34, 35, 36, 37, 38, 39, 40, 41, 42, 43, 44] [6] (m := 0) (b' := 35184372088831) (L' := [(6, .bool false)]) (by kernel_rfl) (NoPanic.then (NoPanic.body)) Under.refl hS (by kernel_rfl) ?_
                          refine WA.done hS (by kernel_rfl) ?_
                          refine QP.pick [6] ?_
                          refine QP.dropAt 2 ?_
                          refine QP.dropAt 1 ?_
                          refine QP.dropAt 0 ?_
                          refine QP.lower hle104 ?_
                          refine QP.pick [6] ?_
                          exact QP.meet ⟨_, Option.some.inj h, Aa0_f1, ca0_f1, Aa0_f2, ca0_f2, rfl, rfl, rfl, Ha0_f1, Ha0_f2⟩
                      · replace hc := (Bool.eq_false_iff.1 hc)
                        rw [if_neg hc] at h
                        have hc148 := hc
                        clear hc
                        refine WA.pure [29, 30, 31, 32, 33, 34, 35, 36, 37, 38, 39, 40, 41, 42, 43, 44] [6] (m := 0) (b' := 35184372088831) (L' := [(6, .bool false)]) (by kernel_rfl) (NoPanic.then (NoPanic.body)) Under.refl hS (by kernel_rfl) ?_
                        refine WA.done hS (by kernel_rfl) ?_
                        refine QP.pick [6] ?_
                        refine QP.dropAt 2 ?_
                        refine QP.dropAt 1 ?_
                        refine QP.dropAt 0 ?_
                        refine QP.lower hle104 ?_
                        refine QP.pick [6] ?_
                        exact QP.meet ⟨_, Option.some.inj h, Aa0_f1, ca0_f1, Aa0_f2, ca0_f2, rfl, rfl, rfl, Ha0_f1, Ha0_f2⟩
                  · replace hc := ne_of_beq_false hc
                    rw [if_neg hc] at h
                    have hc111 := hc
                    clear hc
                    refine WA.pure [3, 4, 5, 6, 7, 8, 9, 10, 11, 12, 13, 14, 15, 16, 17, 18, 19, 20, 21, 22, 23, 24, 25, 26, 27, 28, 29, 30, 31, 32, 33, 34, 35, 36, 37, 38, 39, 40, 41, 42, 43, 44] [6] (m := 0) (b' := 35184372088831) (L' := [(6, .bool false)]) (by kernel_rfl) (NoPanic.then (NoPanic.body)) Under.refl hS (by kernel_rfl) ?_
                    refine WA.done hS (by kernel_rfl) ?_
                    refine QP.pick [6] ?_
                    refine QP.dropAt 2 ?_
                    refine QP.dropAt 1 ?_
                    refine QP.dropAt 0 ?_
                    refine QP.lower hle104 ?_
                    refine QP.pick [6] ?_
                    exact QP.meet ⟨_, Option.some.inj h, Aa0_f1, ca0_f1, Aa0_f2, ca0_f2, rfl, rfl, rfl, Ha0_f1, Ha0_f2⟩
                · rintro _ _ _ ⟨s100, rfl, As100_2_f1, cs100_2_f1, As100_2_f2, cs100_2_f2, rfl, rfl, rfl, Hs100_2_f1, Hs100_2_f2⟩
                  clear h
                  replace h := hk101
                  refine WP.ret ?_
                  obtain rfl := Option.some.inj h
                  refine QP.dropAt 0 ?_
                  exact QP.returned [6] [.bool s100.1] _ (by kernel_rfl) (by kernel_rfl) (by kernel_rfl) (fun W hI => ⟨_, _, _, rfl, ⟨rfl, rfl, rfl⟩, hI⟩)
/-- The plain law. -/
def SegmentUnlike_Pure : Prop := ∀ (a0 : T41) (a1 : T41) (a2 : Int), ((Lit.int .i64 a0.f0).wf = true ∧ (a0.f1.length ≤ maxLen ∧ ∀ z0 ∈ a0.f1, (Lit.int .i64 z0).wf = true) ∧ (a0.f2.length ≤ maxLen ∧ ∀ z0 ∈ a0.f2, (Lit.int .i64 z0).wf = true) ∧ (Lit.int .i64 a0.f3).wf = true ∧ (Lit.int .i64 a0.f4).wf = true ∧ (Lit.int .i64 a0.f5).wf = true ∧ (Lit.int .i64 a0.f6).wf = true ∧ a0.f7.size ≤ maxLen) → ((Lit.int .i64 a1.f0).wf = true ∧ (a1.f1.length ≤ maxLen ∧ ∀ z0 ∈ a1.f1, (Lit.int .i64 z0).wf = true) ∧ (a1.f2.length ≤ maxLen ∧ ∀ z0 ∈ a1.f2, (Lit.int .i64 z0).wf = true) ∧ (Lit.int .i64 a1.f3).wf = true ∧ (Lit.int .i64 a1.f4).wf = true ∧ (Lit.int .i64 a1.f5).wf = true ∧ (Lit.int .i64 a1.f6).wf = true ∧ a1.f7.size ≤ maxLen) → (Lit.int .i64 a2).wf = true → ∃ k, grapevinelaw8_SegmentUnlike k a0 a1 a2 = some true
end Go.Proofs.YtfocilpnbiciaaaDoor.Gf
