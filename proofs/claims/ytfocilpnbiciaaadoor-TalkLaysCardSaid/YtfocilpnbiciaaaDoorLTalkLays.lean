/- Walks of Go functions: what each tells, as a plain Lean function, and that the Go code comes to it. Written by gg.py of this repo. -/
import Derived.Test.YtfocilpnbiciaaaDoorT
import Derived.Test.YtfocilpnbiciaaaDoorF1
import Derived.Test.YtfocilpnbiciaaaDoorF2
import Derived.Test.YtfocilpnbiciaaaDoorF3
import Derived.Test.YtfocilpnbiciaaaDoorF7
namespace Go.Proofs.YtfocilpnbiciaaaDoor.Gf
open Go Go.Gg
set_option maxRecDepth 100000
set_option linter.unusedVariables false
set_option linter.unusedSimpArgs false

/-! ### grapevine/grapevinelaw20.TalkLays: function 6 -/
def grapevinelaw20_TalkLays (k : Nat) (a0 : T54) (a1 : T54) (a2 : Int) : Option Bool := (((grapevinelaw20_great k a0).bind fun t5 => (if t5 = true then some true else ((grapevinelaw20_great k a1).bind fun t10 => some t10))).bind fun s3 => (if s3 = true then ((grapevinelaw20_awake k ).bind fun t15 => some t15) else ((talk_Lay k a0 a2).bind fun t19 => ((grapevineref20_Lay k a0 a2).bind fun t23 => (((grapevinelaw0_SameBytes k t19.1 t23.1).bind fun t29 => (if t29 = true then ((grapevinelaw0_Num t19.2).bind fun t36 => (if t36 = t23.2 then ((talk_May k a0 a2).bind fun t41 => ((grapevineref20_May k a0 a2).bind fun t45 => (if (t41 == t45) = true then ((talk_Same k a0 a1).bind fun t50 => ((grapevinelaw0_SameMessage k a0 a1).bind fun t54 => (if (t50 == t54) = true then ((talk_Same k a0 a0).bind fun t59 => some t59) else some false))) else some false))) else some false)) else some false)).bind fun s27 => ((grapevinelaw0_OverBytes k t19.1).bind fun t63 => ((talk_Lay k a0 a2).bind fun t67 => ((if s27 = true then ((grapevinelaw0_SameBytes k t67.1 t23.1).bind fun t74 => (if t74 = true then ((grapevinelaw20_awake k ).bind fun t81 => some t81) else some false)) else some false).bind fun s71 => some s71))))))))
set_option maxHeartbeats 4000000 in
theorem grapevinelaw20_TalkLays_calls {B : World} {G : GMap} {Γ : List Chunk} {W : World} (HT : Tabs B G) (k : Nat) (a0 : T54) (a1 : T54) (a2 : Int) (Aa0_f3 : Option Addr) (ca0_f3 : Nat) (Ha0_f3 : Rd (kInt .i64) G Aa0_f3 ca0_f3 a0.f3) (Aa0_f4 : Option Addr) (ca0_f4 : Nat) (Ha0_f4 : Rd (kInt .i64) G Aa0_f4 ca0_f4 a0.f4) (Aa0_f5 : Option Addr) (ca0_f5 : Nat) (Ha0_f5 : Rd k39 G Aa0_f5 ca0_f5 a0.f5) (Aa1_f3 : Option Addr) (ca1_f3 : Nat) (Ha1_f3 : Rd (kInt .i64) G Aa1_f3 ca1_f3 a1.f3) (Aa1_f4 : Option Addr) (ca1_f4 : Nat) (Ha1_f4 : Rd (kInt .i64) G Aa1_f4 ca1_f4 a1.f4) (Aa1_f5 : Option Addr) (ca1_f5 : Nat) (Ha1_f5 : Rd k39 G Aa1_f5 ca1_f5 a1.f5) (r : Bool) (h : grapevinelaw20_TalkLays k a0 a1 a2 = some r) (hI : Inv B G (Γ) W) :
    Calls Tryd.prog 6 [.agg #[.int .i64 a0.f0, .int .i64 a0.f1, .int .i64 a0.f2, .slice Aa0_f3 a0.f3.length ca0_f3, .slice Aa0_f4 a0.f4.length ca0_f4, .slice Aa0_f5 a0.f5.length ca0_f5], .agg #[.int .i64 a1.f0, .int .i64 a1.f1, .int .i64 a1.f2, .slice Aa1_f3 a1.f3.length ca1_f3, .slice Aa1_f4 a1.f4.length ca1_f4, .slice Aa1_f5 a1.f5.length ca1_f5], .int .i64 a2].toArray W (Ret B (fun v G' Γ' => v = .bool r ∧ G = G' ∧ Γ = Γ')) := by
  refine calls_WP (Γ := Γ) (G := G) (B := B) Tryd.func6 rfl (by kernel_rfl) ?_ hI
  clear hI
  unfold grapevinelaw20_TalkLays at h
  refine WP.seqR ?_
  refine WL.op (op := .box 54 (.tmp 0)) (ty := 0) (d := some 3) (g := none) (by kernel_rfl) (by kernel_rfl) (by kernel_rfl) (Does.new (o := .cells #[.int .i64 a0.f0, .int .i64 a0.f1, .int .i64 a0.f2, .slice Aa0_f3 a0.f3.length ca0_f3, .slice Aa0_f4 a0.f4.length ca0_f4, .slice Aa0_f5 a0.f5.length ca0_f5] 54 (0, 0)) (v := fun r => .pointer (some ⟨r, 0, none⟩)) (fun r => by kernel_rfl)) ?_
  rintro _ _ _ ⟨b1, rfl, rfl, rfl⟩
  refine WL.op (op := .box 54 (.tmp 1)) (ty := 0) (d := some 4) (g := none) (by kernel_rfl) (by kernel_rfl) (by kernel_rfl) (Does.new (o := .cells #[.int .i64 a1.f0, .int .i64 a1.f1, .int .i64 a1.f2, .slice Aa1_f3 a1.f3.length ca1_f3, .slice Aa1_f4 a1.f4.length ca1_f4, .slice Aa1_f5 a1.f5.length ca1_f5] 54 (0, 0)) (v := fun r => .pointer (some ⟨r, 0, none⟩)) (fun r => by kernel_rfl)) ?_
  rintro _ _ _ ⟨b2, rfl, rfl, rfl⟩
  refine WL.restQ 2 [2, 3, 4] (L' := [(2, .int .i64 a2), (3, .pointer (some ⟨b1, 0, none⟩)), (4, .pointer (some ⟨b2, 0, none⟩))]) (by kernel_rfl) ?_
  refine WP.seq ?_
  rw [Option.bind_eq_some_iff] at h
  obtain ⟨os3, h, hk4⟩ := h
  refine WP.cut (fun L' G' Γ' => ∃ s3 : Bool, s3 = os3 ∧ L' = [(2, .int .i64 a2), (3, .pointer (some ⟨b1, 0, none⟩)), (4, .pointer (some ⟨b2, 0, none⟩)), (17, .bool s3)] ∧ G = G' ∧ [(b2, .cells #[.int .i64 a1.f0, .int .i64 a1.f1, .int .i64 a1.f2, .slice Aa1_f3 a1.f3.length ca1_f3, .slice Aa1_f4 a1.f4.length ca1_f4, .slice Aa1_f5 a1.f5.length ca1_f5] 54 (0, 0))] :: [(b1, .cells #[.int .i64 a0.f0, .int .i64 a0.f1, .int .i64 a0.f2, .slice Aa0_f3 a0.f3.length ca0_f3, .slice Aa0_f4 a0.f4.length ca0_f4, .slice Aa0_f5 a0.f5.length ca0_f5] 54 (0, 0))] :: Γ = Γ') ?_ ?_
  · clear hk4
    refine WP.region ?_
    refine WL.tell (op := .load 54 (.tmp 3)) (ty := 54) (d := some 12) (g := none) (by kernel_rfl) (by kernel_rfl) (by kernel_rfl) (Tells.load_box (i := 1) (b := b1) (o := 0) (agg := true) (by rfl) ag54 (by kernel_rfl) (fun h => by cases h) (Nat.le_of_ble_eq_true rfl) (v := .agg #[.int .i64 a0.f0, .int .i64 a0.f1, .int .i64 a0.f2, .slice Aa0_f3 a0.f3.length ca0_f3, .slice Aa0_f4 a0.f4.length ca0_f4, .slice Aa0_f5 a0.f5.length ca0_f5]) (by kernel_rfl)) ?_
    rw [Option.bind_eq_some_iff] at h
    obtain ⟨t5, ht6, h⟩ := h
    refine WL.op (op := .call { callee := (.value (.func 24)), args := #[(.tmp 12)], argTypes := #[54] }) (ty := 4) (d := some 13) (g := none) (by kernel_rfl) (by kernel_rfl) (by kernel_rfl) (Does.call (f := 24) (args := [.agg #[.int .i64 a0.f0, .int .i64 a0.f1, .int .i64 a0.f2, .slice Aa0_f3 a0.f3.length ca0_f3, .slice Aa0_f4 a0.f4.length ca0_f4, .slice Aa0_f5 a0.f5.length ca0_f5]]) (by kernel_rfl) (fun W hI => (grapevinelaw20_great_calls k a0 Aa0_f3 ca0_f3 Ha0_f3 Aa0_f4 ca0_f4 Ha0_f4 Aa0_f5 ca0_f5 Ha0_f5 t5 ht6 hI))) ?_
    rintro _ _ _ ⟨rfl, rfl, rfl⟩
    refine WL.pure 2 3 [2, 3, 4, 14] (L' := [(2, .int .i64 a2), (3, .pointer (some ⟨b1, 0, none⟩)), (4, .pointer (some ⟨b2, 0, none⟩)), (14, .bool t5)]) (by kernel_rfl) (by decide) ?_
    refine WL.split 14 (b := t5) (by kernel_rfl) (fun hc => ?_) (fun hc => ?_)
    · replace hc := hc
      rw [if_pos hc] at h
      have hc9 := hc
      clear hc
      refine WL.rest 3 [2, 3, 4, 17] (L' := [(2, .int .i64 a2), (3, .pointer (some ⟨b1, 0, none⟩)), (4, .pointer (some ⟨b2, 0, none⟩)), (17, .bool true)]) (by kernel_rfl) ?_
      refine QP.pick [2, 3, 4, 17] ?_
      exact QP.meet ⟨_, Option.some.inj h, rfl, rfl, rfl⟩
    · replace hc := (Bool.eq_false_iff.1 hc)
      rw [if_neg hc] at h
      have hc9 := hc
      clear hc
      refine WL.tell (op := .load 54 (.tmp 4)) (ty := 54) (d := some 15) (g := some (2, false)) (by kernel_rfl) (by kernel_rfl) (by kernel_rfl) (Tells.load_box (i := 0) (b := b2) (o := 0) (agg := true) (by rfl) ag54 (by kernel_rfl) (fun h => by cases h) (Nat.le_of_ble_eq_true rfl) (v := .agg #[.int .i64 a1.f0, .int .i64 a1.f1, .int .i64 a1.f2, .slice Aa1_f3 a1.f3.length ca1_f3, .slice Aa1_f4 a1.f4.length ca1_f4, .slice Aa1_f5 a1.f5.length ca1_f5]) (by kernel_rfl)) ?_
      rw [Option.bind_eq_some_iff] at h
      obtain ⟨t10, ht11, h⟩ := h
      refine WL.op (op := .call { callee := (.value (.func 24)), args := #[(.tmp 15)], argTypes := #[54] }) (ty := 4) (d := some 16) (g := some (2, false)) (by kernel_rfl) (by kernel_rfl) (by kernel_rfl) (Does.call (f := 24) (args := [.agg #[.int .i64 a1.f0, .int .i64 a1.f1, .int .i64 a1.f2, .slice Aa1_f3 a1.f3.length ca1_f3, .slice Aa1_f4 a1.f4.length ca1_f4, .slice Aa1_f5 a1.f5.length ca1_f5]]) (by kernel_rfl) (fun W hI => (grapevinelaw20_great_calls k a1 Aa1_f3 ca1_f3 Ha1_f3 Aa1_f4 ca1_f4 Ha1_f4 Aa1_f5 ca1_f5 Ha1_f5 t10 ht11 hI))) ?_
      rintro _ _ _ ⟨rfl, rfl, rfl⟩
      refine WL.rest 5 [2, 3, 4, 17] (L' := [(2, .int .i64 a2), (3, .pointer (some ⟨b1, 0, none⟩)), (4, .pointer (some ⟨b2, 0, none⟩)), (17, .bool t10)]) (by kernel_rfl) ?_
      refine QP.pick [2, 3, 4, 17] ?_
      exact QP.meet ⟨_, Option.some.inj h, rfl, rfl, rfl⟩
  · rintro _ _ _ ⟨s3, rfl, rfl, rfl, rfl⟩
    clear h
    replace h := hk4
    refine WP.cond (b := s3) (by kernel_rfl) (fun hc => ?_) (fun hc => ?_)
    · replace hc := hc
      rw [if_pos hc] at h
      have hc14 := hc
      clear hc
      refine WP.seqR ?_
      rw [Option.bind_eq_some_iff] at h
      obtain ⟨t15, ht16, h⟩ := h
      refine WL.op (op := .call { callee := (.value (.func 25)), args := #[], argTypes := #[] }) (ty := 4) (d := some 18) (g := none) (by kernel_rfl) (by kernel_rfl) (by kernel_rfl) (Does.call (f := 25) (args := []) (by kernel_rfl) (fun W hI => (grapevinelaw20_awake_calls HT k   t15 ht16 hI))) ?_
      rintro _ _ _ ⟨rfl, rfl, rfl⟩
      refine WL.restQ 1 [6] (L' := [(6, .bool t15)]) (by kernel_rfl) ?_
      refine WP.dropAt 1 ?_
      refine WP.dropAt 0 ?_
      refine WP.ret ?_
      refine QP.thenR ?_
      obtain rfl := Option.some.inj h
      exact QP.returned [6] [.bool t15] _ (by kernel_rfl) (by kernel_rfl) (by kernel_rfl) (fun W hI => ⟨_, _, _, rfl, ⟨rfl, rfl, rfl⟩, hI⟩)
    · replace hc := (Bool.eq_false_iff.1 hc)
      rw [if_neg hc] at h
      have hc14 := hc
      clear hc
      refine WP.skip ?_
      refine QP.next ?_
      refine WP.pick [2, 3, 4] ?_
      refine WP.seqR ?_
      refine WL.tell (op := .load 54 (.tmp 3)) (ty := 54) (d := some 20) (g := none) (by kernel_rfl) (by kernel_rfl) (by kernel_rfl) (Tells.load_box (i := 1) (b := b1) (o := 0) (agg := true) (by rfl) ag54 (by kernel_rfl) (fun h => by cases h) (Nat.le_of_ble_eq_true rfl) (v := .agg #[.int .i64 a0.f0, .int .i64 a0.f1, .int .i64 a0.f2, .slice Aa0_f3 a0.f3.length ca0_f3, .slice Aa0_f4 a0.f4.length ca0_f4, .slice Aa0_f5 a0.f5.length ca0_f5]) (by kernel_rfl)) ?_
      refine WL.pure 1 2 [2, 3, 4, 20, 21] (L' := [(2, .int .i64 a2), (3, .pointer (some ⟨b1, 0, none⟩)), (4, .pointer (some ⟨b2, 0, none⟩)), (20, .agg #[.int .i64 a0.f0, .int .i64 a0.f1, .int .i64 a0.f2, .slice Aa0_f3 a0.f3.length ca0_f3, .slice Aa0_f4 a0.f4.length ca0_f4, .slice Aa0_f5 a0.f5.length ca0_f5]), (21, .int .i64 a2)]) (by kernel_rfl) (by decide) ?_
      rw [Option.bind_eq_some_iff] at h
      obtain ⟨t19, ht20, h⟩ := h
      refine WL.op (op := .call { callee := (.value (.func 26)), args := #[(.tmp 20), (.tmp 21)], argTypes := #[54, 3] }) (ty := 44) (d := some 22) (g := none) (by kernel_rfl) (by kernel_rfl) (by kernel_rfl) (Does.call (f := 26) (args := [.agg #[.int .i64 a0.f0, .int .i64 a0.f1, .int .i64 a0.f2, .slice Aa0_f3 a0.f3.length ca0_f3, .slice Aa0_f4 a0.f4.length ca0_f4, .slice Aa0_f5 a0.f5.length ca0_f5], .int .i64 a2]) (by kernel_rfl) (fun W hI => (talk_Lay_calls HT k a0 a2 Aa0_f3 ca0_f3 Ha0_f3 Aa0_f4 ca0_f4 Ha0_f4 Aa0_f5 ca0_f5 Ha0_f5 t19 ht20 hI))) ?_
      rintro _ _ _ ⟨AR210, cR210, CR210, rfl, HR210, rfl, rfl⟩
      refine WL.restQ 3 [2, 3, 4, 7, 8] (L' := [(2, .int .i64 a2), (3, .pointer (some ⟨b1, 0, none⟩)), (4, .pointer (some ⟨b2, 0, none⟩)), (7, .slice AR210 t19.1.length cR210), (8, .int .i64 t19.2)]) (by kernel_rfl) ?_
      refine WP.seqR ?_
      refine WL.tell (op := .load 54 (.tmp 3)) (ty := 54) (d := some 26) (g := none) (by kernel_rfl) (by kernel_rfl) (by kernel_rfl) (Tells.load_box (i := 2) (b := b1) (o := 0) (agg := true) (by rfl) ag54 (by kernel_rfl) (fun h => by cases h) (Nat.le_of_ble_eq_true rfl) (v := .agg #[.int .i64 a0.f0, .int .i64 a0.f1, .int .i64 a0.f2, .slice Aa0_f3 a0.f3.length ca0_f3, .slice Aa0_f4 a0.f4.length ca0_f4, .slice Aa0_f5 a0.f5.length ca0_f5]) (by kernel_rfl)) ?_
      refine WL.pure 1 2 [2, 3, 4, 7, 8, 26, 27] (L' := [(2, .int .i64 a2), (3, .pointer (some ⟨b1, 0, none⟩)), (4, .pointer (some ⟨b2, 0, none⟩)), (7, .slice AR210 t19.1.length cR210), (8, .int .i64 t19.2), (26, .agg #[.int .i64 a0.f0, .int .i64 a0.f1, .int .i64 a0.f2, .slice Aa0_f3 a0.f3.length ca0_f3, .slice Aa0_f4 a0.f4.length ca0_f4, .slice Aa0_f5 a0.f5.length ca0_f5]), (27, .int .i64 a2)]) (by kernel_rfl) (by decide) ?_
      rw [Option.bind_eq_some_iff] at h
      obtain ⟨t23, ht24, h⟩ := h
      refine WL.op (op := .call { callee := (.value (.func 27)), args := #[(.tmp 26), (.tmp 27)], argTypes := #[54, 3] }) (ty := 57) (d := some 28) (g := none) (by kernel_rfl) (by kernel_rfl) (by kernel_rfl) (Does.call (f := 27) (args := [.agg #[.int .i64 a0.f0, .int .i64 a0.f1, .int .i64 a0.f2, .slice Aa0_f3 a0.f3.length ca0_f3, .slice Aa0_f4 a0.f4.length ca0_f4, .slice Aa0_f5 a0.f5.length ca0_f5], .int .i64 a2]) (by kernel_rfl) (fun W hI => (grapevineref20_Lay_calls HT k a0 a2 Aa0_f3 ca0_f3 Ha0_f3 Aa0_f4 ca0_f4 Ha0_f4 Aa0_f5 ca0_f5 Ha0_f5 t23 ht24 hI))) ?_
      rintro _ _ _ ⟨AR250, cR250, CR250, rfl, HR250, rfl, rfl⟩
      refine WL.restQ 3 [2, 3, 4, 7, 8, 9, 10] (L' := [(2, .int .i64 a2), (3, .pointer (some ⟨b1, 0, none⟩)), (4, .pointer (some ⟨b2, 0, none⟩)), (7, .slice AR210 t19.1.length cR210), (8, .int .i64 t19.2), (9, .slice AR250 t23.1.length cR250), (10, .int .i64 t23.2)]) (by kernel_rfl) ?_
      rw [Option.bind_eq_some_iff] at h
      obtain ⟨os27, h, hk28⟩ := h
      refine WP.cut (fun L' G' Γ' => ∃ s27 : Bool, s27 = os27 ∧ L' = [(2, .int .i64 a2), (3, .pointer (some ⟨b1, 0, none⟩)), (7, .slice AR210 t19.1.length cR210), (9, .slice AR250 t23.1.length cR250), (11, .bool s27)] ∧ G = G' ∧ CR250 :: CR210 :: [(b1, .cells #[.int .i64 a0.f0, .int .i64 a0.f1, .int .i64 a0.f2, .slice Aa0_f3 a0.f3.length ca0_f3, .slice Aa0_f4 a0.f4.length ca0_f4, .slice Aa0_f5 a0.f5.length ca0_f5] 54 (0, 0))] :: Γ = Γ') ?_ ?_
      · clear hk28
        skip
        refine WP.any (N := 33) (S := [⟨some 31, [7], []⟩, ⟨some 32, [9], []⟩, ⟨some 33, [31, 32], [0, 1]⟩, ⟨some 34, [33], [2]⟩, ⟨some 35, [8, 34], [3]⟩, ⟨some 36, [34, 35], [3, 4]⟩, ⟨some 37, [10, 34], [3]⟩, ⟨some 38, [34, 36, 37], [3, 5, 6]⟩, ⟨some 39, [34, 38], [3, 7]⟩, ⟨some 40, [39], [5, 8]⟩, ⟨some 41, [3, 40], [9]⟩, ⟨some 42, [2, 40], [9]⟩, ⟨some 43, [40, 41, 42], [9, 10, 11]⟩, ⟨some 44, [3, 40], [9]⟩, ⟨some 45, [2, 40], [9]⟩, ⟨some 46, [40, 44, 45], [9, 12, 13, 14]⟩, ⟨some 47, [40, 43, 46], [9, 12, 15]⟩, ⟨some 48, [40, 47], [9, 16]⟩, ⟨some 49, [48], [15, 17]⟩, ⟨some 50, [3, 49], [18]⟩, ⟨some 51, [4, 49], [18]⟩, ⟨some 52, [49, 50, 51], [18, 19, 20]⟩, ⟨some 53, [3, 49], [18]⟩, ⟨some 54, [4, 49], [18]⟩, ⟨some 55, [49, 53, 54], [18, 21, 22, 23]⟩, ⟨some 56, [49, 52, 55], [18, 21, 24]⟩, ⟨some 57, [49, 56], [18, 25]⟩, ⟨some 58, [57], [24, 26]⟩, ⟨some 59, [3, 58], [27]⟩, ⟨some 60, [3, 58], [27]⟩, ⟨some 61, [58, 59, 60], [27, 28, 29]⟩, ⟨some 62, [58, 61], [27, 30]⟩, ⟨some 11, [62], [0, 1, 2, 3, 4, 5, 6, 7, 8, 9, 10, 11, 12, 13, 14, 15, 16, 17, 18, 19, 20, 21, 22, 23, 24, 25, 26, 27, 28, 29, 30, 31]⟩]) (kw := 33) (G0 := G) (Γ0 := CR250 :: CR210 :: [(b2, .cells #[.int .i64 a1.f0, .int .i64 a1.f1, .int .i64 a1.f2, .slice Aa1_f3 a1.f3.length ca1_f3, .slice Aa1_f4 a1.f4.length ca1_f4, .slice Aa1_f5 a1.f5.length ca1_f5] 54 (0, 0))] :: [(b1, .cells #[.int .i64 a0.f0, .int .i64 a0.f1, .int .i64 a0.f2, .slice Aa0_f3 a0.f3.length ca0_f3, .slice Aa0_f4 a0.f4.length ca0_f4, .slice Aa0_f5 a0.f5.length ca0_f5] 54 (0, 0))] :: Γ) mo (by kernel_rfl) (fun hS => ?_)
        refine WA.pure [0, 1] [2, 3, 4, 7, 8, 9, 10, 31, 32] (m := 31) (b' := 3) (L' := [(2, .int .i64 a2), (3, .pointer (some ⟨b1, 0, none⟩)), (4, .pointer (some ⟨b2, 0, none⟩)), (7, .slice AR210 t19.1.length cR210), (8, .int .i64 t19.2), (9, .slice AR250 t23.1.length cR250), (10, .int .i64 t23.2), (31, .slice AR210 t19.1.length cR210), (32, .slice AR250 t23.1.length cR250)]) (by kernel_rfl) (NoPanic.then (NoPanic.body)) Under.refl hS (by kernel_rfl) ?_
        rw [Option.bind_eq_some_iff] at h
        obtain ⟨t29, ht30, h⟩ := h
        refine WA.op (i := 2) (m := 30) (b' := 7) (by kernel_rfl) hS (by kernel_rfl) (op := .call { callee := (.value (.func 22)), args := #[(.tmp 31), (.tmp 32)], argTypes := #[22, 22] }) (ty := 4) (d := some 33) (g := none) (by kernel_rfl) (by kernel_rfl) (by kernel_rfl) (Does.call (Φ := fun v' G' Γ' => v' = .bool t29 ∧ G = G' ∧ CR250 :: CR210 :: [(b2, .cells #[.int .i64 a1.f0, .int .i64 a1.f1, .int .i64 a1.f2, .slice Aa1_f3 a1.f3.length ca1_f3, .slice Aa1_f4 a1.f4.length ca1_f4, .slice Aa1_f5 a1.f5.length ca1_f5] 54 (0, 0))] :: [(b1, .cells #[.int .i64 a0.f0, .int .i64 a0.f1, .int .i64 a0.f2, .slice Aa0_f3 a0.f3.length ca0_f3, .slice Aa0_f4 a0.f4.length ca0_f4, .slice Aa0_f5 a0.f5.length ca0_f5] 54 (0, 0))] :: Γ = Γ') (f := 22) (args := [.slice AR210 t19.1.length cR210, .slice AR250 t23.1.length cR250]) (by kernel_rfl) (fun W hI => (Calls.lendN (Φ := fun v' N => v' = .bool t29 ∧ N = []) (H := []) (i := 1) rfl hI (fun _ e l33 nl33 hI => by subst e; exact Calls.lendN (Φ := fun v' N => v' = .bool t29 ∧ N = []) (H := []) (i := 0) rfl hI (fun _ e l34 nl34 hI => by subst e; exact (((grapevinelaw0_SameBytes_calls k t19.1 t23.1 AR210 cR210 ((HR210.rdN l33 nl33).mono l34) AR250 cR250 ((HR250.mono l33).rdN l34 nl34) t29 ht30 hI)).mono fun _ _ hr => by obtain ⟨_, _, _, rfl, hd, hI⟩ := hr; obtain ⟨rfl, rfl, rfl⟩ := hd; exact ⟨_, _, _, rfl, ⟨[], ⟨rfl, rfl⟩, rfl, rfl⟩, hI⟩)))).mono fun _ _ hr => by obtain ⟨_, _, _, rfl, ⟨_, hd, rfl, rfl⟩, hI⟩ := hr; obtain ⟨rfl, rfl⟩ := hd; exact ⟨_, _, _, rfl, ⟨rfl, rfl, rfl⟩, hI⟩)) ?_
        rintro _ _ _ ⟨rfl, rfl, rfl⟩
        refine ⟨_, _, Under.refl, Under.refl, ?_⟩
        refine WA.pure [3] [2, 3, 4, 7, 8, 9, 10, 34] (m := 29) (b' := 15) (L' := [(2, .int .i64 a2), (3, .pointer (some ⟨b1, 0, none⟩)), (4, .pointer (some ⟨b2, 0, none⟩)), (7, .slice AR210 t19.1.length cR210), (8, .int .i64 t19.2), (9, .slice AR250 t23.1.length cR250), (10, .int .i64 t23.2), (34, .bool t29)]) (by kernel_rfl) (NoPanic.then (NoPanic.body)) Under.refl hS (by kernel_rfl) ?_
        refine WA.split 34 (b := t29) (by kernel_rfl) (fun hc => ?_) (fun hc => ?_)
        · replace hc := hc
          rw [if_pos hc] at h
          have hc35 := hc
          clear hc
          refine WA.pure [4, 6] [2, 3, 4, 7, 9, 34, 35, 37] (m := 27) (b' := 95) (L' := [(2, .int .i64 a2), (3, .pointer (some ⟨b1, 0, none⟩)), (4, .pointer (some ⟨b2, 0, none⟩)), (7, .slice AR210 t19.1.length cR210), (9, .slice AR250 t23.1.length cR250), (34, .bool true), (35, .int .i64 t19.2), (37, .int .i64 t23.2)]) (by kernel_rfl) (NoPanic.then (NoPanic.body)) Under.refl hS (by kernel_rfl) ?_
          rw [Option.bind_eq_some_iff] at h
          obtain ⟨t36, ht37, h⟩ := h
          refine WA.op (i := 5) (m := 26) (b' := 127) (by kernel_rfl) hS (by kernel_rfl) (op := .call { callee := (.value (.func 28)), args := #[(.tmp 35)], argTypes := #[43] }) (ty := 3) (d := some 36) (g := some (3, true)) (by kernel_rfl) (by kernel_rfl) (by kernel_rfl) (Does.call (f := 28) (args := [.int .i64 t19.2]) (by kernel_rfl) (fun W hI => (grapevinelaw0_Num_calls t19.2  t36 ht37 hI))) ?_
          rintro _ _ _ ⟨rfl, rfl, rfl⟩
          refine ⟨_, _, Under.refl, Under.refl, ?_⟩
          refine WA.pure [7, 8, 9] [2, 3, 4, 7, 9, 40] (m := 23) (b' := 1023) (L' := [(2, .int .i64 a2), (3, .pointer (some ⟨b1, 0, none⟩)), (4, .pointer (some ⟨b2, 0, none⟩)), (7, .slice AR210 t19.1.length cR210), (9, .slice AR250 t23.1.length cR250), (40, .bool (t36 == t23.2))]) (by kernel_rfl) (NoPanic.then (NoPanic.body)) Under.refl hS (by kernel_rfl) ?_
          refine WA.split 40 (b := (t36 == t23.2)) (by kernel_rfl) (fun hc => ?_) (fun hc => ?_)
          · replace hc := eq_of_beq hc
            rw [if_pos hc] at h
            have hc40 := hc
            clear hc
            refine WA.pure [11, 14] [2, 3, 4, 7, 9, 40, 42, 45] (m := 21) (b' := 19455) (L' := [(2, .int .i64 a2), (3, .pointer (some ⟨b1, 0, none⟩)), (4, .pointer (some ⟨b2, 0, none⟩)), (7, .slice AR210 t19.1.length cR210), (9, .slice AR250 t23.1.length cR250), (40, .bool true), (42, .int .i64 a2), (45, .int .i64 a2)]) (by kernel_rfl) (NoPanic.then (NoPanic.body)) Under.refl hS (by kernel_rfl) ?_
            refine WA.tellD [] (i := 10) (m := 20) (b' := 20479) (by kernel_rfl) (NoPanic.then (NoPanic.body)) Under.refl hS (by kernel_rfl) (op := .load 54 (.tmp 3)) (ty := 54) (d := some 41) (g := some (9, true)) (by kernel_rfl) (by kernel_rfl) (by kernel_rfl) (Tells.load_box (i := 3) (b := b1) (o := 0) (agg := true) (by rfl) ag54 (by kernel_rfl) (fun h => by cases h) (Nat.le_of_ble_eq_true rfl) (v := .agg #[.int .i64 a0.f0, .int .i64 a0.f1, .int .i64 a0.f2, .slice Aa0_f3 a0.f3.length ca0_f3, .slice Aa0_f4 a0.f4.length ca0_f4, .slice Aa0_f5 a0.f5.length ca0_f5]) (by kernel_rfl)) ?_
            refine WA.tellD [] (i := 13) (m := 19) (b' := 28671) (by kernel_rfl) (NoPanic.then (NoPanic.body)) Under.refl hS (by kernel_rfl) (op := .load 54 (.tmp 3)) (ty := 54) (d := some 44) (g := some (9, true)) (by kernel_rfl) (by kernel_rfl) (by kernel_rfl) (Tells.load_box (i := 3) (b := b1) (o := 0) (agg := true) (by rfl) ag54 (by kernel_rfl) (fun h => by cases h) (Nat.le_of_ble_eq_true rfl) (v := .agg #[.int .i64 a0.f0, .int .i64 a0.f1, .int .i64 a0.f2, .slice Aa0_f3 a0.f3.length ca0_f3, .slice Aa0_f4 a0.f4.length ca0_f4, .slice Aa0_f5 a0.f5.length ca0_f5]) (by kernel_rfl)) ?_
            rw [Option.bind_eq_some_iff] at h
            obtain ⟨t41, ht42, h⟩ := h
            refine WA.op (i := 12) (m := 18) (b' := 32767) (by kernel_rfl) hS (by kernel_rfl) (op := .call { callee := (.value (.func 29)), args := #[(.tmp 41), (.tmp 42)], argTypes := #[54, 3] }) (ty := 4) (d := some 43) (g := some (9, true)) (by kernel_rfl) (by kernel_rfl) (by kernel_rfl) (Does.call (f := 29) (args := [.agg #[.int .i64 a0.f0, .int .i64 a0.f1, .int .i64 a0.f2, .slice Aa0_f3 a0.f3.length ca0_f3, .slice Aa0_f4 a0.f4.length ca0_f4, .slice Aa0_f5 a0.f5.length ca0_f5], .int .i64 a2]) (by kernel_rfl) (fun W hI => (talk_May_calls HT k a0 a2 Aa0_f3 ca0_f3 Ha0_f3 Aa0_f4 ca0_f4 Ha0_f4 Aa0_f5 ca0_f5 Ha0_f5 t41 ht42 hI))) ?_
            rintro _ _ _ ⟨rfl, rfl, rfl⟩
            refine ⟨_, _, Under.refl, Under.refl, ?_⟩
            rw [Option.bind_eq_some_iff] at h
            obtain ⟨t45, ht46, h⟩ := h
            refine WA.op (i := 15) (m := 17) (b' := 65535) (by kernel_rfl) hS (by kernel_rfl) (op := .call { callee := (.value (.func 30)), args := #[(.tmp 44), (.tmp 45)], argTypes := #[54, 3] }) (ty := 4) (d := some 46) (g := some (9, true)) (by kernel_rfl) (by kernel_rfl) (by kernel_rfl) (Does.call (f := 30) (args := [.agg #[.int .i64 a0.f0, .int .i64 a0.f1, .int .i64 a0.f2, .slice Aa0_f3 a0.f3.length ca0_f3, .slice Aa0_f4 a0.f4.length ca0_f4, .slice Aa0_f5 a0.f5.length ca0_f5], .int .i64 a2]) (by kernel_rfl) (fun W hI => (grapevineref20_May_calls HT k a0 a2 Aa0_f3 ca0_f3 Ha0_f3 Aa0_f4 ca0_f4 Ha0_f4 Aa0_f5 ca0_f5 Ha0_f5 t45 ht46 hI))) ?_
            rintro _ _ _ ⟨rfl, rfl, rfl⟩
            refine ⟨_, _, Under.refl, Under.refl, ?_⟩
            refine WA.pure [16, 17, 18] [2, 3, 4, 7, 9, 49] (m := 14) (b' := 524287) (L' := [(2, .int .i64 a2), (3, .pointer (some ⟨b1, 0, none⟩)), (4, .pointer (some ⟨b2, 0, none⟩)), (7, .slice AR210 t19.1.length cR210), (9, .slice AR250 t23.1.length cR250), (49, .bool (t41 == t45))]) (by kernel_rfl) (NoPanic.then (NoPanic.body)) Under.refl hS (by kernel_rfl) ?_
            refine WA.split 49 (b := (t41 == t45)) (by kernel_rfl) (fun hc => ?_) (fun hc => ?_)
            · replace hc := hc
              rw [if_pos hc] at h
              have hc49 := hc
              clear hc
              refine WA.tellD [] (i := 19) (m := 13) (b' := 1048575) (by kernel_rfl) (NoPanic.then (NoPanic.body)) Under.refl hS (by kernel_rfl) (op := .load 54 (.tmp 3)) (ty := 54) (d := some 50) (g := some (18, true)) (by kernel_rfl) (by kernel_rfl) (by kernel_rfl) (Tells.load_box (i := 3) (b := b1) (o := 0) (agg := true) (by rfl) ag54 (by kernel_rfl) (fun h => by cases h) (Nat.le_of_ble_eq_true rfl) (v := .agg #[.int .i64 a0.f0, .int .i64 a0.f1, .int .i64 a0.f2, .slice Aa0_f3 a0.f3.length ca0_f3, .slice Aa0_f4 a0.f4.length ca0_f4, .slice Aa0_f5 a0.f5.length ca0_f5]) (by kernel_rfl)) ?_
              refine WA.tellD [] (i := 20) (m := 12) (b' := 2097151) (by kernel_rfl) (NoPanic.then (NoPanic.body)) Under.refl hS (by kernel_rfl) (op := .load 54 (.tmp 4)) (ty := 54) (d := some 51) (g := some (18, true)) (by kernel_rfl) (by kernel_rfl) (by kernel_rfl) (Tells.load_box (i := 2) (b := b2) (o := 0) (agg := true) (by rfl) ag54 (by kernel_rfl) (fun h => by cases h) (Nat.le_of_ble_eq_true rfl) (v := .agg #[.int .i64 a1.f0, .int .i64 a1.f1, .int .i64 a1.f2, .slice Aa1_f3 a1.f3.length ca1_f3, .slice Aa1_f4 a1.f4.length ca1_f4, .slice Aa1_f5 a1.f5.length ca1_f5]) (by kernel_rfl)) ?_
              refine WA.tellD [] (i := 22) (m := 11) (b' := 6291455) (by kernel_rfl) (NoPanic.then (NoPanic.body)) Under.refl hS (by kernel_rfl) (op := .load 54 (.tmp 3)) (ty := 54) (d := some 53) (g := some (18, true)) (by kernel_rfl) (by kernel_rfl) (by kernel_rfl) (Tells.load_box (i := 3) (b := b1) (o := 0) (agg := true) (by rfl) ag54 (by kernel_rfl) (fun h => by cases h) (Nat.le_of_ble_eq_true rfl) (v := .agg #[.int .i64 a0.f0, .int .i64 a0.f1, .int .i64 a0.f2, .slice Aa0_f3 a0.f3.length ca0_f3, .slice Aa0_f4 a0.f4.length ca0_f4, .slice Aa0_f5 a0.f5.length ca0_f5]) (by kernel_rfl)) ?_
              refine WA.tellD [] (i := 23) (m := 10) (b' := 14680063) (by kernel_rfl) (NoPanic.then (NoPanic.body)) Under.refl hS (by kernel_rfl) (op := .load 54 (.tmp 4)) (ty := 54) (d := some 54) (g := some (18, true)) (by kernel_rfl) (by kernel_rfl) (by kernel_rfl) (Tells.load_box (i := 2) (b := b2) (o := 0) (agg := true) (by rfl) ag54 (by kernel_rfl) (fun h => by cases h) (Nat.le_of_ble_eq_true rfl) (v := .agg #[.int .i64 a1.f0, .int .i64 a1.f1, .int .i64 a1.f2, .slice Aa1_f3 a1.f3.length ca1_f3, .slice Aa1_f4 a1.f4.length ca1_f4, .slice Aa1_f5 a1.f5.length ca1_f5]) (by kernel_rfl)) ?_
              rw [Option.bind_eq_some_iff] at h
              obtain ⟨t50, ht51, h⟩ := h
              refine WA.op (i := 21) (m := 9) (b' := 16777215) (by kernel_rfl) hS (by kernel_rfl) (op := .call { callee := (.value (.func 31)), args := #[(.tmp 50), (.tmp 51)], argTypes := #[54, 54] }) (ty := 4) (d := some 52) (g := some (18, true)) (by kernel_rfl) (by kernel_rfl) (by kernel_rfl) (Does.call (f := 31) (args := [.agg #[.int .i64 a0.f0, .int .i64 a0.f1, .int .i64 a0.f2, .slice Aa0_f3 a0.f3.length ca0_f3, .slice Aa0_f4 a0.f4.length ca0_f4, .slice Aa0_f5 a0.f5.length ca0_f5], .agg #[.int .i64 a1.f0, .int .i64 a1.f1, .int .i64 a1.f2, .slice Aa1_f3 a1.f3.length ca1_f3, .slice Aa1_f4 a1.f4.length ca1_f4, .slice Aa1_f5 a1.f5.length ca1_f5]]) (by kernel_rfl) (fun W hI => (talk_Same_calls k a0 a1 Aa0_f3 ca0_f3 Ha0_f3 Aa0_f4 ca0_f4 Ha0_f4 Aa0_f5 ca0_f5 Ha0_f5 Aa1_f3 ca1_f3 Ha1_f3 Aa1_f4 ca1_f4 Ha1_f4 Aa1_f5 ca1_f5 Ha1_f5 t50 ht51 hI))) ?_
              rintro _ _ _ ⟨rfl, rfl, rfl⟩
              refine ⟨_, _, Under.refl, Under.refl, ?_⟩
              rw [Option.bind_eq_some_iff] at h
              obtain ⟨t54, ht55, h⟩ := h
              refine WA.op (i := 24) (m := 8) (b' := 33554431) (by kernel_rfl) hS (by kernel_rfl) (op := .call { callee := (.value (.func 32)), args := #[(.tmp 53), (.tmp 54)], argTypes := #[54, 54] }) (ty := 4) (d := some 55) (g := some (18, true)) (by kernel_rfl) (by kernel_rfl) (by kernel_rfl) (Does.call (f := 32) (args := [.agg #[.int .i64 a0.f0, .int .i64 a0.f1, .int .i64 a0.f2, .slice Aa0_f3 a0.f3.length ca0_f3, .slice Aa0_f4 a0.f4.length ca0_f4, .slice Aa0_f5 a0.f5.length ca0_f5], .agg #[.int .i64 a1.f0, .int .i64 a1.f1, .int .i64 a1.f2, .slice Aa1_f3 a1.f3.length ca1_f3, .slice Aa1_f4 a1.f4.length ca1_f4, .slice Aa1_f5 a1.f5.length ca1_f5]]) (by kernel_rfl) (fun W hI => (grapevinelaw0_SameMessage_calls k a0 a1 Aa0_f3 ca0_f3 Ha0_f3 Aa0_f4 ca0_f4 Ha0_f4 Aa0_f5 ca0_f5 Ha0_f5 Aa1_f3 ca1_f3 Ha1_f3 Aa1_f4 ca1_f4 Ha1_f4 Aa1_f5 ca1_f5 Ha1_f5 t54 ht55 hI))) ?_
              rintro _ _ _ ⟨rfl, rfl, rfl⟩
              refine ⟨_, _, Under.refl, Under.refl, ?_⟩
              refine WA.pure [25, 26, 27] [2, 3, 7, 9, 58] (m := 5) (b' := 268435455) (L' := [(2, .int .i64 a2), (3, .pointer (some ⟨b1, 0, none⟩)), (7, .slice AR210 t19.1.length cR210), (9, .slice AR250 t23.1.length cR250), (58, .bool (t50 == t54))]) (by kernel_rfl) (NoPanic.then (NoPanic.body)) Under.refl hS (by kernel_rfl) ?_
              refine WA.split 58 (b := (t50 == t54)) (by kernel_rfl) (fun hc => ?_) (fun hc => ?_)
              · replace hc := hc
                rw [if_pos hc] at h
                have hc58 := hc
                clear hc
                refine WA.tellD [] (i := 28) (m := 4) (b' := 536870911) (by kernel_rfl) (NoPanic.then (NoPanic.body)) Under.refl hS (by kernel_rfl) (op := .load 54 (.tmp 3)) (ty := 54) (d := some 59) (g := some (27, true)) (by kernel_rfl) (by kernel_rfl) (by kernel_rfl) (Tells.load_box (i := 3) (b := b1) (o := 0) (agg := true) (by rfl) ag54 (by kernel_rfl) (fun h => by cases h) (Nat.le_of_ble_eq_true rfl) (v := .agg #[.int .i64 a0.f0, .int .i64 a0.f1, .int .i64 a0.f2, .slice Aa0_f3 a0.f3.length ca0_f3, .slice Aa0_f4 a0.f4.length ca0_f4, .slice Aa0_f5 a0.f5.length ca0_f5]) (by kernel_rfl)) ?_
                refine WA.tellD [] (i := 29) (m := 3) (b' := 1073741823) (by kernel_rfl) (NoPanic.then (NoPanic.body)) Under.refl hS (by kernel_rfl) (op := .load 54 (.tmp 3)) (ty := 54) (d := some 60) (g := some (27, true)) (by kernel_rfl) (by kernel_rfl) (by kernel_rfl) (Tells.load_box (i := 3) (b := b1) (o := 0) (agg := true) (by rfl) ag54 (by kernel_rfl) (fun h => by cases h) (Nat.le_of_ble_eq_true rfl) (v := .agg #[.int .i64 a0.f0, .int .i64 a0.f1, .int .i64 a0.f2, .slice Aa0_f3 a0.f3.length ca0_f3, .slice Aa0_f4 a0.f4.length ca0_f4, .slice Aa0_f5 a0.f5.length ca0_f5]) (by kernel_rfl)) ?_
                rw [Option.bind_eq_some_iff] at h
                obtain ⟨t59, ht60, h⟩ := h
                refine WA.op (i := 30) (m := 2) (b' := 2147483647) (by kernel_rfl) hS (by kernel_rfl) (op := .call { callee := (.value (.func 31)), args := #[(.tmp 59), (.tmp 60)], argTypes := #[54, 54] }) (ty := 4) (d := some 61) (g := some (27, true)) (by kernel_rfl) (by kernel_rfl) (by kernel_rfl) (Does.call (f := 31) (args := [.agg #[.int .i64 a0.f0, .int .i64 a0.f1, .int .i64 a0.f2, .slice Aa0_f3 a0.f3.length ca0_f3, .slice Aa0_f4 a0.f4.length ca0_f4, .slice Aa0_f5 a0.f5.length ca0_f5], .agg #[.int .i64 a0.f0, .int .i64 a0.f1, .int .i64 a0.f2, .slice Aa0_f3 a0.f3.length ca0_f3, .slice Aa0_f4 a0.f4.length ca0_f4, .slice Aa0_f5 a0.f5.length ca0_f5]]) (by kernel_rfl) (fun W hI => (talk_Same_calls k a0 a0 Aa0_f3 ca0_f3 Ha0_f3 Aa0_f4 ca0_f4 Ha0_f4 Aa0_f5 ca0_f5 Ha0_f5 Aa0_f3 ca0_f3 Ha0_f3 Aa0_f4 ca0_f4 Ha0_f4 Aa0_f5 ca0_f5 Ha0_f5 t59 ht60 hI))) ?_
                rintro _ _ _ ⟨rfl, rfl, rfl⟩
                refine ⟨_, _, Under.refl, Under.refl, ?_⟩
                refine WA.pure [31, 32] [2, 3, 7, 9, 11] (m := 0) (b' := 8589934591) (L' := [(2, .int .i64 a2), (3, .pointer (some ⟨b1, 0, none⟩)), (7, .slice AR210 t19.1.length cR210), (9, .slice AR250 t23.1.length cR250), (11, .bool t59)]) (by kernel_rfl) (NoPanic.then (NoPanic.body)) Under.refl hS (by kernel_rfl) ?_
                refine WA.done hS (by kernel_rfl) ?_
                refine QP.pick [2, 3, 7, 9, 11] ?_
                refine QP.dropAt 2 ?_
                refine QP.pick [2, 3, 7, 9, 11] ?_
                exact QP.meet ⟨_, Option.some.inj h, rfl, rfl, rfl⟩
              · replace hc := (Bool.eq_false_iff.1 hc)
                rw [if_neg hc] at h
                have hc58 := hc
                clear hc
                refine WA.pure [28, 29, 30, 31, 32] [2, 3, 7, 9, 11] (m := 0) (b' := 8589934591) (L' := [(2, .int .i64 a2), (3, .pointer (some ⟨b1, 0, none⟩)), (7, .slice AR210 t19.1.length cR210), (9, .slice AR250 t23.1.length cR250), (11, .bool false)]) (by kernel_rfl) (NoPanic.then (NoPanic.body)) Under.refl hS (by kernel_rfl) ?_
                refine WA.done hS (by kernel_rfl) ?_
                refine QP.pick [2, 3, 7, 9, 11] ?_
                refine QP.dropAt 2 ?_
                refine QP.pick [2, 3, 7, 9, 11] ?_
                exact QP.meet ⟨_, Option.some.inj h, rfl, rfl, rfl⟩
            · replace hc := (Bool.eq_false_iff.1 hc)
              rw [if_neg hc] at h
              have hc49 := hc
              clear hc
              refine WA.pure [19, 20, 21, 22, 23, 24, 25, 26, 27, 28, 29, 30, 31, 32] [2, 3, 7, 9, 11] (m := 0) (b' := 8589934591) (L' := [(2, .int .i64 a2), (3, .pointer (some ⟨b1, 0, none⟩)), (7, .slice AR210 t19.1.length cR210), (9, .slice AR250 t23.1.length cR250), (11, .bool false)]) (by kernel_rfl) (NoPanic.then (NoPanic.body)) Under.refl hS (by kernel_rfl) ?_
              refine WA.done hS (by kernel_rfl) ?_
              refine QP.pick [2, 3, 7, 9, 11] ?_
              refine QP.dropAt 2 ?_
              refine QP.pick [2, 3, 7, 9, 11] ?_
              exact QP.meet ⟨_, Option.some.inj h, rfl, rfl, rfl⟩
          · replace hc := ne_of_beq_false hc
            rw [if_neg hc] at h
            have hc40 := hc
            clear hc
            refine WA.pure [10, 11, 12, 13, 14, 15, 16, 17, 18, 19, 20, 21, 22, 23, 24, 25, 26, 27, 28, 29, 30, 31, 32] [2, 3, 7, 9, 11] (m := 0) (b' := 8589934591) (L' := [(2, .int .i64 a2), (3, .pointer (some ⟨b1, 0, none⟩)), (7, .slice AR210 t19.1.length cR210), (9, .slice AR250 t23.1.length cR250), (11, .bool false)]) (by kernel_rfl) (NoPanic.then (NoPanic.body)) Under.refl hS (by kernel_rfl) ?_
            refine WA.done hS (by kernel_rfl) ?_
            refine QP.pick [2, 3, 7, 9, 11] ?_
            refine QP.dropAt 2 ?_
            refine QP.pick [2, 3, 7, 9, 11] ?_
            exact QP.meet ⟨_, Option.some.inj h, rfl, rfl, rfl⟩
        · replace hc := (Bool.eq_false_iff.1 hc)
          rw [if_neg hc] at h
          have hc35 := hc
          clear hc
          refine WA.pure [4, 5, 6, 7, 8, 9, 10, 11, 12, 13, 14, 15, 16, 17, 18, 19, 20, 21, 22, 23, 24, 25, 26, 27, 28, 29, 30, 31, 32] [2, 3, 7, 9, 11] (m := 0) (b' := 8589934591) (L' := [(2, .int .i64 a2), (3, .pointer (some ⟨b1, 0, none⟩)), (7, .slice AR210 t19.1.length cR210), (9, .slice AR250 t23.1.length cR250), (11, .bool false)]) (by kernel_rfl) (NoPanic.then (NoPanic.body)) Under.refl hS (by kernel_rfl) ?_
          refine WA.done hS (by kernel_rfl) ?_
          refine QP.pick [2, 3, 7, 9, 11] ?_
          refine QP.dropAt 2 ?_
          refine QP.pick [2, 3, 7, 9, 11] ?_
          exact QP.meet ⟨_, Option.some.inj h, rfl, rfl, rfl⟩
      · rintro _ _ _ ⟨s27, rfl, rfl, rfl, rfl⟩
        clear h
        replace h := hk28
        refine WP.seqR ?_
        refine WL.pure 0 1 [2, 3, 9, 11, 63] (L' := [(2, .int .i64 a2), (3, .pointer (some ⟨b1, 0, none⟩)), (9, .slice AR250 t23.1.length cR250), (11, .bool s27), (63, .slice AR210 t19.1.length cR210)]) (by kernel_rfl) (by decide) ?_
        refine WL.front (i := 1) rfl ?_
        rw [Option.bind_eq_some_iff] at h
        obtain ⟨t63, ht64, h⟩ := h
        refine WL.op (op := .call { callee := (.value (.func 33)), args := #[(.tmp 63)], argTypes := #[22] }) (ty := 0) (d := some 64) (g := none) (by kernel_rfl) (by kernel_rfl) (by kernel_rfl) (Does.call (f := 33) (args := [.slice AR210 t19.1.length cR210]) (by kernel_rfl) (fun W hI => (grapevinelaw0_OverBytes_calls k t19.1 AR210 cR210 CR210 HR210 t63 ht64 hI))) ?_
        rintro _ _ _ ⟨rfl, rfl, rfl⟩
        refine WL.restQ 2 [2, 3, 9, 11] (L' := [(2, .int .i64 a2), (3, .pointer (some ⟨b1, 0, none⟩)), (9, .slice AR250 t23.1.length cR250), (11, .bool s27)]) (by kernel_rfl) ?_
        refine WP.seqR ?_
        refine WL.tell (op := .load 54 (.tmp 3)) (ty := 54) (d := some 66) (g := none) (by kernel_rfl) (by kernel_rfl) (by kernel_rfl) (Tells.load_box (i := 1) (b := b1) (o := 0) (agg := true) (by rfl) ag54 (by kernel_rfl) (fun h => by cases h) (Nat.le_of_ble_eq_true rfl) (v := .agg #[.int .i64 a0.f0, .int .i64 a0.f1, .int .i64 a0.f2, .slice Aa0_f3 a0.f3.length ca0_f3, .slice Aa0_f4 a0.f4.length ca0_f4, .slice Aa0_f5 a0.f5.length ca0_f5]) (by kernel_rfl)) ?_
        refine WL.pure 1 2 [9, 11, 66, 67] (L' := [(9, .slice AR250 t23.1.length cR250), (11, .bool s27), (66, .agg #[.int .i64 a0.f0, .int .i64 a0.f1, .int .i64 a0.f2, .slice Aa0_f3 a0.f3.length ca0_f3, .slice Aa0_f4 a0.f4.length ca0_f4, .slice Aa0_f5 a0.f5.length ca0_f5]), (67, .int .i64 a2)]) (by kernel_rfl) (by decide) ?_
        rw [Option.bind_eq_some_iff] at h
        obtain ⟨t67, ht68, h⟩ := h
        refine WL.op (op := .call { callee := (.value (.func 26)), args := #[(.tmp 66), (.tmp 67)], argTypes := #[54, 3] }) (ty := 44) (d := some 68) (g := none) (by kernel_rfl) (by kernel_rfl) (by kernel_rfl) (Does.call (f := 26) (args := [.agg #[.int .i64 a0.f0, .int .i64 a0.f1, .int .i64 a0.f2, .slice Aa0_f3 a0.f3.length ca0_f3, .slice Aa0_f4 a0.f4.length ca0_f4, .slice Aa0_f5 a0.f5.length ca0_f5], .int .i64 a2]) (by kernel_rfl) (fun W hI => (talk_Lay_calls HT k a0 a2 Aa0_f3 ca0_f3 Ha0_f3 Aa0_f4 ca0_f4 Ha0_f4 Aa0_f5 ca0_f5 Ha0_f5 t67 ht68 hI))) ?_
        rintro _ _ _ ⟨AR690, cR690, CR690, rfl, HR690, rfl, rfl⟩
        refine WL.restQ 3 [7, 9, 11] (L' := [(7, .slice AR690 t67.1.length cR690), (9, .slice AR250 t23.1.length cR250), (11, .bool s27)]) (by kernel_rfl) ?_
        refine WP.dropAt 2 ?_
        rw [Option.bind_eq_some_iff] at h
        obtain ⟨os71, h, hk72⟩ := h
        refine WP.cut (fun L' G' Γ' => ∃ s71 : Bool, s71 = os71 ∧ L' = [(6, .bool s71)] ∧ G = G' ∧ Γ = Γ') ?_ ?_
        · clear hk72
          refine WP.region ?_
          refine WL.pure 0 2 [7, 9, 72] (L' := [(7, .slice AR690 t67.1.length cR690), (9, .slice AR250 t23.1.length cR250), (72, .bool s27)]) (by kernel_rfl) (by decide) ?_
          refine WL.split 72 (b := s27) (by kernel_rfl) (fun hc => ?_) (fun hc => ?_)
          · replace hc := hc
            rw [if_pos hc] at h
            have hc73 := hc
            clear hc
            refine WL.pure 2 4 [72, 73, 74] (L' := [(72, .bool true), (73, .slice AR690 t67.1.length cR690), (74, .slice AR250 t23.1.length cR250)]) (by kernel_rfl) (by decide) ?_
            rw [Option.bind_eq_some_iff] at h
            obtain ⟨t74, ht75, h⟩ := h
            refine WL.op (op := .call { callee := (.value (.func 22)), args := #[(.tmp 73), (.tmp 74)], argTypes := #[22, 22] }) (ty := 4) (d := some 75) (g := some (1, true)) (by kernel_rfl) (by kernel_rfl) (by kernel_rfl) (Does.call (Φ := fun v' G' Γ' => v' = .bool t74 ∧ G = G' ∧ CR690 :: CR250 :: Γ = Γ') (f := 22) (args := [.slice AR690 t67.1.length cR690, .slice AR250 t23.1.length cR250]) (by kernel_rfl) (fun W hI => (Calls.lendN (Φ := fun v' N => v' = .bool t74 ∧ N = []) (H := []) (i := 0) rfl hI (fun _ e l78 nl78 hI => by subst e; exact Calls.lendN (Φ := fun v' N => v' = .bool t74 ∧ N = []) (H := []) (i := 1) rfl hI (fun _ e l79 nl79 hI => by subst e; exact (((grapevinelaw0_SameBytes_calls k t67.1 t23.1 AR690 cR690 ((HR690.rdN l78 nl78).mono l79) AR250 cR250 ((HR250.mono l78).rdN l79 nl79) t74 ht75 hI)).mono fun _ _ hr => by obtain ⟨_, _, _, rfl, hd, hI⟩ := hr; obtain ⟨rfl, rfl, rfl⟩ := hd; exact ⟨_, _, _, rfl, ⟨[], ⟨rfl, rfl⟩, rfl, rfl⟩, hI⟩)))).mono fun _ _ hr => by obtain ⟨_, _, _, rfl, ⟨_, hd, rfl, rfl⟩, hI⟩ := hr; obtain ⟨rfl, rfl⟩ := hd; exact ⟨_, _, _, rfl, ⟨rfl, rfl, rfl⟩, hI⟩)) ?_
            rintro _ _ _ ⟨rfl, rfl, rfl⟩
            refine WL.pure 5 7 [77] (L' := [(77, .bool t74)]) (by kernel_rfl) (by decide) ?_
            refine WL.split 77 (b := t74) (by kernel_rfl) (fun hc => ?_) (fun hc => ?_)
            · replace hc := hc
              rw [if_pos hc] at h
              have hc80 := hc
              clear hc
              rw [Option.bind_eq_some_iff] at h
              obtain ⟨t81, ht82, h⟩ := h
              refine WL.op (op := .call { callee := (.value (.func 25)), args := #[], argTypes := #[] }) (ty := 4) (d := some 78) (g := some (6, true)) (by kernel_rfl) (by kernel_rfl) (by kernel_rfl) (Does.call (f := 25) (args := []) (by kernel_rfl) (fun W hI => (grapevinelaw20_awake_calls HT k   t81 ht82 hI))) ?_
              rintro _ _ _ ⟨rfl, rfl, rfl⟩
              refine WL.rest 8 [6] (L' := [(6, .bool t81)]) (by kernel_rfl) ?_
              refine QP.dropAt 1 ?_
              refine QP.dropAt 0 ?_
              refine QP.pick [6] ?_
              exact QP.meet ⟨_, Option.some.inj h, rfl, rfl, rfl⟩
            · replace hc := (Bool.eq_false_iff.1 hc)
              rw [if_neg hc] at h
              have hc80 := hc
              clear hc
              refine WL.rest 7 [6] (L' := [(6, .bool false)]) (by kernel_rfl) ?_
              refine QP.dropAt 1 ?_
              refine QP.dropAt 0 ?_
              refine QP.pick [6] ?_
              exact QP.meet ⟨_, Option.some.inj h, rfl, rfl, rfl⟩
          · replace hc := (Bool.eq_false_iff.1 hc)
            rw [if_neg hc] at h
            have hc73 := hc
            clear hc
            refine WL.rest 2 [6] (L' := [(6, .bool false)]) (by kernel_rfl) ?_
            refine QP.dropAt 1 ?_
            refine QP.dropAt 0 ?_
            refine QP.pick [6] ?_
            exact QP.meet ⟨_, Option.some.inj h, rfl, rfl, rfl⟩
        · rintro _ _ _ ⟨s71, rfl, rfl, rfl, rfl⟩
          clear h
          replace h := hk72
          refine WP.ret ?_
          obtain rfl := Option.some.inj h
          exact QP.returned [6] [.bool s71] _ (by kernel_rfl) (by kernel_rfl) (by kernel_rfl) (fun W hI => ⟨_, _, _, rfl, ⟨rfl, rfl, rfl⟩, hI⟩)
/-- The plain law. -/
def TalkLays_Pure : Prop := ∀ (a0 : T54) (a1 : T54) (a2 : Int), ((Lit.int .i64 a0.f0).wf = true ∧ (Lit.int .i64 a0.f1).wf = true ∧ (Lit.int .i64 a0.f2).wf = true ∧ (a0.f3.length ≤ maxLen ∧ ∀ z0 ∈ a0.f3, (Lit.int .i64 z0).wf = true) ∧ (a0.f4.length ≤ maxLen ∧ ∀ z0 ∈ a0.f4, (Lit.int .i64 z0).wf = true) ∧ (a0.f5.length ≤ maxLen ∧ ∀ z0 ∈ a0.f5, ((Lit.int .i64 z0.f0).wf = true ∧ (Lit.int .i64 z0.f1).wf = true ∧ (Lit.int .i64 z0.f2).wf = true ∧ (Lit.int .i64 z0.f3).wf = true ∧ z0.f4.size ≤ maxLen))) → ((Lit.int .i64 a1.f0).wf = true ∧ (Lit.int .i64 a1.f1).wf = true ∧ (Lit.int .i64 a1.f2).wf = true ∧ (a1.f3.length ≤ maxLen ∧ ∀ z0 ∈ a1.f3, (Lit.int .i64 z0).wf = true) ∧ (a1.f4.length ≤ maxLen ∧ ∀ z0 ∈ a1.f4, (Lit.int .i64 z0).wf = true) ∧ (a1.f5.length ≤ maxLen ∧ ∀ z0 ∈ a1.f5, ((Lit.int .i64 z0.f0).wf = true ∧ (Lit.int .i64 z0.f1).wf = true ∧ (Lit.int .i64 z0.f2).wf = true ∧ (Lit.int .i64 z0.f3).wf = true ∧ z0.f4.size ≤ maxLen))) → (Lit.int .i64 a2).wf = true → ∃ k, grapevinelaw20_TalkLays k a0 a1 a2 = some true
end Go.Proofs.YtfocilpnbiciaaaDoor.Gf
