/- Walks of Go functions: what each tells, as a plain Lean function, and that the Go code comes to it. Written by gg.py of this repo. -/
import Derived.Test.YtmphcmgbognmnaaT
import Derived.Test.YtmphcmgbognmnaaF0
namespace Go.Proofs.Ytmphcmgbognmnaa.Gf
open Go Go.Gg
set_option maxRecDepth 100000
set_option linter.unusedVariables false
set_option linter.unusedSimpArgs false

/-! ### grapevine/grapevinelaw2.StampTells: function 3 -/
def grapevinelaw2_StampTells (k : Nat) (a0 : T23) (a1 : T23) (l2 : List T23) : Option Bool := (if (l2.length : Int) > 30 then ((grapevinelaw2_awake k ).bind fun t4 => some t4) else (((stamp_May a0).bind fun t10 => ((grapevineref2_May a0).bind fun t14 => (if (t10 == t14) = true then ((stamp_Less a0 a1).bind fun t19 => ((grapevineref2_Less a0 a1).bind fun t23 => (if (t19 == t23) = true then ((stamp_Max k l2).bind fun t28 => ((grapevineref2_Max k l2).bind fun t32 => (if t28 = t32 then ((stamp_New a0).bind fun t37 => Option.elim t37 ((grapevineref2_May a0).bind fun t41 => (if (false == t41) = true then ((grapevinelaw2_awake k ).bind fun t46 => some t46) else some false)) (fun x40 => ((grapevineref2_May a0).bind fun t50 => (if (true == t50) = true then ((grapevinelaw2_awake k ).bind fun t55 => some t55) else some false)))) else some false))) else some false))) else some false))).bind fun s8 => some s8))
set_option maxHeartbeats 4000000 in
theorem grapevinelaw2_StampTells_calls {B : World} {G : GMap} {Γ : List Chunk} {W : World} (k : Nat) (a0 : T23) (a1 : T23) (l2 : List T23) (Al2 : Option Addr) (cl2 : Nat) (Hl2 : Rd k23 G Al2 cl2 l2) (r : Bool) (h : grapevinelaw2_StampTells k a0 a1 l2 = some r) (hI : Inv B G (Γ) W) :
    Calls Try.prog 3 [.agg #[.int .i64 a0.f0, .int .i64 a0.f1], .agg #[.int .i64 a1.f0, .int .i64 a1.f1], .slice Al2 l2.length cl2].toArray W (Ret B (fun v G' Γ' => v = .bool r ∧ G = G' ∧ Γ = Γ')) := by
  refine calls_WP (Γ := Γ) (G := G) (B := B) Try.func3 rfl (by kernel_rfl) ?_ hI
  clear hI
  unfold grapevinelaw2_StampTells at h
  refine WP.seqR ?_
  refine WL.op (op := .box 23 (.tmp 0)) (ty := 0) (d := some 3) (g := none) (by kernel_rfl) (by kernel_rfl) (by kernel_rfl) (Does.new (o := .cells #[.int .i64 a0.f0, .int .i64 a0.f1] 23 (0, 0)) (v := fun r => .pointer (some ⟨r, 0, none⟩)) (fun r => by kernel_rfl)) ?_
  rintro _ _ _ ⟨b1, rfl, rfl, rfl⟩
  refine WL.op (op := .box 23 (.tmp 1)) (ty := 0) (d := some 4) (g := none) (by kernel_rfl) (by kernel_rfl) (by kernel_rfl) (Does.new (o := .cells #[.int .i64 a1.f0, .int .i64 a1.f1] 23 (0, 0)) (v := fun r => .pointer (some ⟨r, 0, none⟩)) (fun r => by kernel_rfl)) ?_
  rintro _ _ _ ⟨b2, rfl, rfl, rfl⟩
  refine WL.restQ 2 [2, 3, 4] (L' := [(2, .slice Al2 l2.length cl2), (3, .pointer (some ⟨b1, 0, none⟩)), (4, .pointer (some ⟨b2, 0, none⟩))]) (by kernel_rfl) ?_
  refine WP.seq ?_
  refine WP.seqP [2, 3, 4, 9] (L' := [(2, .slice Al2 l2.length cl2), (3, .pointer (some ⟨b1, 0, none⟩)), (4, .pointer (some ⟨b2, 0, none⟩)), (9, .bool (decide ((l2.length : Int) > 30)))]) (by kernel_rfl) ?_
  refine WP.cond (b := decide ((l2.length : Int) > 30)) (by kernel_rfl) (fun hc => ?_) (fun hc => ?_)
  · replace hc := of_decide_eq_true hc
    rw [if_pos hc] at h
    have hc3 := hc
    clear hc
    refine WP.seqR ?_
    rw [Option.bind_eq_some_iff] at h
    obtain ⟨t4, ht5, h⟩ := h
    refine WL.op (op := .call { callee := (.value (.func 17)), args := #[], argTypes := #[] }) (ty := 4) (d := some 10) (g := none) (by kernel_rfl) (by kernel_rfl) (by kernel_rfl) (Does.call (f := 17) (args := []) (by kernel_rfl) (fun W hI => (grapevinelaw2_awake_calls k   t4 ht5 hI))) ?_
    rintro _ _ _ ⟨rfl, rfl, rfl⟩
    refine WL.restQ 1 [6] (L' := [(6, .bool t4)]) (by kernel_rfl) ?_
    refine WP.dropAt 1 ?_
    refine WP.dropAt 0 ?_
    refine WP.ret ?_
    refine QP.thenR ?_
    obtain rfl := Option.some.inj h
    exact QP.returned [6] [.bool t4] _ (by kernel_rfl) (by kernel_rfl) (by kernel_rfl) (fun W hI => ⟨_, _, _, rfl, ⟨rfl, rfl, rfl⟩, hI⟩)
  · replace hc := of_decide_eq_false hc
    rw [if_neg hc] at h
    have hc3 := hc
    clear hc
    refine WP.skip ?_
    refine QP.next ?_
    refine WP.pick [2, 3, 4] ?_
    rw [Option.bind_eq_some_iff] at h
    obtain ⟨os8, h, hk9⟩ := h
    refine WP.cut (fun L' G' Γ' => ∃ s8 : Bool, s8 = os8 ∧ L' = [(6, .bool s8)] ∧ G = G' ∧ [(b2, .cells #[.int .i64 a1.f0, .int .i64 a1.f1] 23 (0, 0))] :: [(b1, .cells #[.int .i64 a0.f0, .int .i64 a0.f1] 23 (0, 0))] :: Γ = Γ') ?_ ?_
    · clear hk9
      skip
      refine WP.any (N := 33) (S := [⟨some 11, [3], []⟩, ⟨some 12, [11], [0]⟩, ⟨some 13, [3], []⟩, ⟨some 14, [13], [1, 2]⟩, ⟨some 15, [12, 14], [1, 3]⟩, ⟨some 16, [15], [3, 4]⟩, ⟨some 17, [3, 16], [5]⟩, ⟨some 18, [4, 16], [5]⟩, ⟨some 19, [16, 17, 18], [5, 6, 7]⟩, ⟨some 20, [3, 16], [5]⟩, ⟨some 21, [4, 16], [5]⟩, ⟨some 22, [16, 20, 21], [5, 8, 9, 10]⟩, ⟨some 23, [16, 19, 22], [5, 8, 11]⟩, ⟨some 24, [16, 23], [5, 12]⟩, ⟨some 25, [24], [11, 13]⟩, ⟨some 26, [2, 25], [14]⟩, ⟨some 27, [25, 26], [14, 15]⟩, ⟨some 28, [2, 25], [14]⟩, ⟨some 29, [25, 28], [14, 16, 17]⟩, ⟨some 30, [25, 27, 29], [14, 16, 18]⟩, ⟨some 31, [25, 30], [14, 19]⟩, ⟨some 32, [31], [18, 20]⟩, ⟨some 33, [3, 32], [21]⟩, ⟨some 34, [32, 33], [21, 22]⟩, ⟨some 35, [32, 34], [21, 23]⟩, ⟨some 36, [3, 32], [21]⟩, ⟨some 37, [32, 36], [21, 23, 25]⟩, ⟨some 38, [32, 35, 37], [21, 24, 26]⟩, ⟨some 39, [32, 38], [21, 27]⟩, ⟨some 40, [39], [26, 28]⟩, ⟨some 41, [40], [29]⟩, ⟨some 42, [40, 41], [29, 30]⟩, ⟨some 6, [42], [0, 1, 2, 3, 4, 5, 6, 7, 8, 9, 10, 11, 12, 13, 14, 15, 16, 17, 18, 19, 20, 21, 22, 23, 24, 25, 26, 27, 28, 29, 30, 31]⟩]) (kw := 33) (G0 := G) (Γ0 := [(b2, .cells #[.int .i64 a1.f0, .int .i64 a1.f1] 23 (0, 0))] :: [(b1, .cells #[.int .i64 a0.f0, .int .i64 a0.f1] 23 (0, 0))] :: Γ) mo (by kernel_rfl) (fun hS => ?_)
      refine WA.tellD [] (i := 0) (m := 32) (b' := 1) (by kernel_rfl) (NoPanic.then (NoPanic.body)) Under.refl hS (by kernel_rfl) (op := .load 23 (.tmp 3)) (ty := 23) (d := some 11) (g := none) (by kernel_rfl) (by kernel_rfl) (by kernel_rfl) (Tells.load_box (i := 1) (b := b1) (o := 0) (agg := true) (by rfl) ag23 (by kernel_rfl) (fun h => by cases h) (Nat.le_of_ble_eq_true rfl) (v := .agg #[.int .i64 a0.f0, .int .i64 a0.f1]) (by kernel_rfl)) ?_
      refine WA.tellD [] (i := 2) (m := 31) (b' := 5) (by kernel_rfl) (NoPanic.then (NoPanic.body)) Under.refl hS (by kernel_rfl) (op := .load 23 (.tmp 3)) (ty := 23) (d := some 13) (g := none) (by kernel_rfl) (by kernel_rfl) (by kernel_rfl) (Tells.load_box (i := 1) (b := b1) (o := 0) (agg := true) (by rfl) ag23 (by kernel_rfl) (fun h => by cases h) (Nat.le_of_ble_eq_true rfl) (v := .agg #[.int .i64 a0.f0, .int .i64 a0.f1]) (by kernel_rfl)) ?_
      rw [Option.bind_eq_some_iff] at h
      obtain ⟨t10, ht11, h⟩ := h
      refine WA.op (i := 1) (m := 30) (b' := 7) (by kernel_rfl) hS (by kernel_rfl) (op := .call { callee := (.value (.func 18)), args := #[(.tmp 11)], argTypes := #[23] }) (ty := 4) (d := some 12) (g := none) (by kernel_rfl) (by kernel_rfl) (by kernel_rfl) (Does.call (f := 18) (args := [.agg #[.int .i64 a0.f0, .int .i64 a0.f1]]) (by kernel_rfl) (fun W hI => (stamp_May_calls a0  t10 ht11 hI))) ?_
      rintro _ _ _ ⟨rfl, rfl, rfl⟩
      refine ⟨_, _, Under.refl, Under.refl, ?_⟩
      rw [Option.bind_eq_some_iff] at h
      obtain ⟨t14, ht15, h⟩ := h
      refine WA.op (i := 3) (m := 29) (b' := 15) (by kernel_rfl) hS (by kernel_rfl) (op := .call { callee := (.value (.func 19)), args := #[(.tmp 13)], argTypes := #[23] }) (ty := 4) (d := some 14) (g := none) (by kernel_rfl) (by kernel_rfl) (by kernel_rfl) (Does.call (f := 19) (args := [.agg #[.int .i64 a0.f0, .int .i64 a0.f1]]) (by kernel_rfl) (fun W hI => (grapevineref2_May_calls a0  t14 ht15 hI))) ?_
      rintro _ _ _ ⟨rfl, rfl, rfl⟩
      refine ⟨_, _, Under.refl, Under.refl, ?_⟩
      refine WA.pure [4, 5] [2, 3, 4, 16] (m := 27) (b' := 63) (L' := [(2, .slice Al2 l2.length cl2), (3, .pointer (some ⟨b1, 0, none⟩)), (4, .pointer (some ⟨b2, 0, none⟩)), (16, .bool (t10 == t14))]) (by kernel_rfl) (NoPanic.then (NoPanic.body)) Under.refl hS (by kernel_rfl) ?_
      refine WA.split 16 (b := (t10 == t14)) (by kernel_rfl) (fun hc => ?_) (fun hc => ?_)
      · replace hc := hc
        rw [if_pos hc] at h
        have hc18 := hc
        clear hc
        refine WA.tellD [] (i := 6) (m := 26) (b' := 127) (by kernel_rfl) (NoPanic.then (NoPanic.body)) Under.refl hS (by kernel_rfl) (op := .load 23 (.tmp 3)) (ty := 23) (d := some 17) (g := some (5, true)) (by kernel_rfl) (by kernel_rfl) (by kernel_rfl) (Tells.load_box (i := 1) (b := b1) (o := 0) (agg := true) (by rfl) ag23 (by kernel_rfl) (fun h => by cases h) (Nat.le_of_ble_eq_true rfl) (v := .agg #[.int .i64 a0.f0, .int .i64 a0.f1]) (by kernel_rfl)) ?_
        refine WA.tellD [] (i := 7) (m := 25) (b' := 255) (by kernel_rfl) (NoPanic.then (NoPanic.body)) Under.refl hS (by kernel_rfl) (op := .load 23 (.tmp 4)) (ty := 23) (d := some 18) (g := some (5, true)) (by kernel_rfl) (by kernel_rfl) (by kernel_rfl) (Tells.load_box (i := 0) (b := b2) (o := 0) (agg := true) (by rfl) ag23 (by kernel_rfl) (fun h => by cases h) (Nat.le_of_ble_eq_true rfl) (v := .agg #[.int .i64 a1.f0, .int .i64 a1.f1]) (by kernel_rfl)) ?_
        refine WA.tellD [] (i := 9) (m := 24) (b' := 767) (by kernel_rfl) (NoPanic.then (NoPanic.body)) Under.refl hS (by kernel_rfl) (op := .load 23 (.tmp 3)) (ty := 23) (d := some 20) (g := some (5, true)) (by kernel_rfl) (by kernel_rfl) (by kernel_rfl) (Tells.load_box (i := 1) (b := b1) (o := 0) (agg := true) (by rfl) ag23 (by kernel_rfl) (fun h => by cases h) (Nat.le_of_ble_eq_true rfl) (v := .agg #[.int .i64 a0.f0, .int .i64 a0.f1]) (by kernel_rfl)) ?_
        refine WA.tellD [] (i := 10) (m := 23) (b' := 1791) (by kernel_rfl) (NoPanic.then (NoPanic.body)) Under.refl hS (by kernel_rfl) (op := .load 23 (.tmp 4)) (ty := 23) (d := some 21) (g := some (5, true)) (by kernel_rfl) (by kernel_rfl) (by kernel_rfl) (Tells.load_box (i := 0) (b := b2) (o := 0) (agg := true) (by rfl) ag23 (by kernel_rfl) (fun h => by cases h) (Nat.le_of_ble_eq_true rfl) (v := .agg #[.int .i64 a1.f0, .int .i64 a1.f1]) (by kernel_rfl)) ?_
        rw [Option.bind_eq_some_iff] at h
        obtain ⟨t19, ht20, h⟩ := h
        refine WA.op (i := 8) (m := 22) (b' := 2047) (by kernel_rfl) hS (by kernel_rfl) (op := .call { callee := (.value (.func 20)), args := #[(.tmp 17), (.tmp 18)], argTypes := #[23, 23] }) (ty := 4) (d := some 19) (g := some (5, true)) (by kernel_rfl) (by kernel_rfl) (by kernel_rfl) (Does.call (f := 20) (args := [.agg #[.int .i64 a0.f0, .int .i64 a0.f1], .agg #[.int .i64 a1.f0, .int .i64 a1.f1]]) (by kernel_rfl) (fun W hI => (stamp_Less_calls a0 a1  t19 ht20 hI))) ?_
        rintro _ _ _ ⟨rfl, rfl, rfl⟩
        refine ⟨_, _, Under.refl, Under.refl, ?_⟩
        rw [Option.bind_eq_some_iff] at h
        obtain ⟨t23, ht24, h⟩ := h
        refine WA.op (i := 11) (m := 21) (b' := 4095) (by kernel_rfl) hS (by kernel_rfl) (op := .call { callee := (.value (.func 21)), args := #[(.tmp 20), (.tmp 21)], argTypes := #[23, 23] }) (ty := 4) (d := some 22) (g := some (5, true)) (by kernel_rfl) (by kernel_rfl) (by kernel_rfl) (Does.call (f := 21) (args := [.agg #[.int .i64 a0.f0, .int .i64 a0.f1], .agg #[.int .i64 a1.f0, .int .i64 a1.f1]]) (by kernel_rfl) (fun W hI => (grapevineref2_Less_calls a0 a1  t23 ht24 hI))) ?_
        rintro _ _ _ ⟨rfl, rfl, rfl⟩
        refine ⟨_, _, Under.refl, Under.refl, ?_⟩
        refine WA.pure [12, 13, 14] [2, 3, 25] (m := 18) (b' := 32767) (L' := [(2, .slice Al2 l2.length cl2), (3, .pointer (some ⟨b1, 0, none⟩)), (25, .bool (t19 == t23))]) (by kernel_rfl) (NoPanic.then (NoPanic.body)) Under.refl hS (by kernel_rfl) ?_
        refine WA.split 25 (b := (t19 == t23)) (by kernel_rfl) (fun hc => ?_) (fun hc => ?_)
        · replace hc := hc
          rw [if_pos hc] at h
          have hc27 := hc
          clear hc
          refine WA.pure [15, 17] [3, 25, 26, 28] (m := 16) (b' := 196607) (L' := [(3, .pointer (some ⟨b1, 0, none⟩)), (25, .bool true), (26, .slice Al2 l2.length cl2), (28, .slice Al2 l2.length cl2)]) (by kernel_rfl) (NoPanic.then (NoPanic.body)) Under.refl hS (by kernel_rfl) ?_
          rw [Option.bind_eq_some_iff] at h
          obtain ⟨t28, ht29, h⟩ := h
          refine WA.op (i := 16) (m := 15) (b' := 262143) (by kernel_rfl) hS (by kernel_rfl) (op := .call { callee := (.value (.func 22)), args := #[(.tmp 26)], argTypes := #[24] }) (ty := 23) (d := some 27) (g := some (14, true)) (by kernel_rfl) (by kernel_rfl) (by kernel_rfl) (Does.call (f := 22) (args := [.slice Al2 l2.length cl2]) (by kernel_rfl) (fun W hI => (stamp_Max_calls k l2 Al2 cl2 Hl2 t28 ht29 hI))) ?_
          rintro _ _ _ ⟨rfl, rfl, rfl⟩
          refine ⟨_, _, Under.refl, Under.refl, ?_⟩
          rw [Option.bind_eq_some_iff] at h
          obtain ⟨t32, ht33, h⟩ := h
          refine WA.op (i := 18) (m := 14) (b' := 524287) (by kernel_rfl) hS (by kernel_rfl) (op := .call { callee := (.value (.func 23)), args := #[(.tmp 28)], argTypes := #[24] }) (ty := 23) (d := some 29) (g := some (14, true)) (by kernel_rfl) (by kernel_rfl) (by kernel_rfl) (Does.call (f := 23) (args := [.slice Al2 l2.length cl2]) (by kernel_rfl) (fun W hI => (grapevineref2_Max_calls k l2 Al2 cl2 Hl2 t32 ht33 hI))) ?_
          rintro _ _ _ ⟨rfl, rfl, rfl⟩
          refine ⟨_, _, Under.refl, Under.refl, ?_⟩
          refine WA.tellD [] (i := 19) (m := 13) (b' := 1048575) (by kernel_rfl) (NoPanic.then (NoPanic.body)) Under.refl hS (by kernel_rfl) (op := .binOp .eql 23 (.tmp 27) (.tmp 29) 23) (ty := 4) (d := some 30) (g := some (14, true)) (by kernel_rfl) (by kernel_rfl) (by kernel_rfl) (Tells.eqAgg (xs := #[.int .i64 t28.f0, .int .i64 t28.f1]) (ys := #[.int .i64 t32.f0, .int .i64 t32.f1]) (ls := [.int t28.f0 t32.f0, .int t28.f1 t32.f1]) (by kernel_rfl) (by kernel_rfl) (by kernel_rfl) eg23) ?_
          refine WA.reput 30 (v := .bool ([.int t28.f0 t32.f0, .int t28.f1 t32.f1].all Lf.ok)) (v' := .bool (decide (t28 = t32))) (by kernel_rfl) (by exact (congrArg Value.bool (eqT23 t28 t32))) ?_
          refine WA.pure [20, 21] [3, 32] (m := 11) (b' := 4194303) (L' := [(3, .pointer (some ⟨b1, 0, none⟩)), (32, .bool (decide (t28 = t32)))]) (by kernel_rfl) (NoPanic.then (NoPanic.body)) Under.refl hS (by kernel_rfl) ?_
          refine WA.split 32 (b := decide (t28 = t32)) (by kernel_rfl) (fun hc => ?_) (fun hc => ?_)
          · replace hc := of_decide_eq_true hc
            rw [if_pos hc] at h
            have hc36 := hc
            clear hc
            refine WA.tellD [] (i := 22) (m := 10) (b' := 8388607) (by kernel_rfl) (NoPanic.then (NoPanic.body)) Under.refl hS (by kernel_rfl) (op := .load 23 (.tmp 3)) (ty := 23) (d := some 33) (g := some (21, true)) (by kernel_rfl) (by kernel_rfl) (by kernel_rfl) (Tells.load_box (i := 1) (b := b1) (o := 0) (agg := true) (by rfl) ag23 (by kernel_rfl) (fun h => by cases h) (Nat.le_of_ble_eq_true rfl) (v := .agg #[.int .i64 a0.f0, .int .i64 a0.f1]) (by kernel_rfl)) ?_
            refine WA.tellD [] (i := 25) (m := 9) (b' := 41943039) (by kernel_rfl) (NoPanic.then (NoPanic.body)) Under.refl hS (by kernel_rfl) (op := .load 23 (.tmp 3)) (ty := 23) (d := some 36) (g := some (21, true)) (by kernel_rfl) (by kernel_rfl) (by kernel_rfl) (Tells.load_box (i := 1) (b := b1) (o := 0) (agg := true) (by rfl) ag23 (by kernel_rfl) (fun h => by cases h) (Nat.le_of_ble_eq_true rfl) (v := .agg #[.int .i64 a0.f0, .int .i64 a0.f1]) (by kernel_rfl)) ?_
            rw [Option.bind_eq_some_iff] at h
            obtain ⟨t37, ht38, h⟩ := h
            refine WA.op (i := 23) (m := 8) (b' := 50331647) (by kernel_rfl) hS (by kernel_rfl) (op := .call { callee := (.value (.func 24)), args := #[(.tmp 33)], argTypes := #[23] }) (ty := 30) (d := some 34) (g := some (21, true)) (by kernel_rfl) (by kernel_rfl) (by kernel_rfl) (Does.call (f := 24) (args := [.agg #[.int .i64 a0.f0, .int .i64 a0.f1]]) (by kernel_rfl) (fun W hI => (stamp_New_calls a0  t37 ht38 hI))) ?_
            rintro _ _ _ (⟨hx, rfl, rfl, rfl⟩ | ⟨x40, hx, bR39, rfl, rfl, rfl⟩)
            · rw [hx] at h
              rw [Option.elim_none] at h
              clear hx
              refine ⟨_, _, Under.refl, Under.refl, ?_⟩
              refine WA.pure [24] [32, 35, 36] (m := 7) (b' := 67108863) (L' := [(32, .bool true), (35, .bool false), (36, .agg #[.int .i64 a0.f0, .int .i64 a0.f1])]) (by kernel_rfl) (NoPanic.then (NoPanic.body)) Under.refl hS (by kernel_rfl) ?_
              rw [Option.bind_eq_some_iff] at h
              obtain ⟨t41, ht42, h⟩ := h
              refine WA.op (i := 26) (m := 6) (b' := 134217727) (by kernel_rfl) hS (by kernel_rfl) (op := .call { callee := (.value (.func 19)), args := #[(.tmp 36)], argTypes := #[23] }) (ty := 4) (d := some 37) (g := some (21, true)) (by kernel_rfl) (by kernel_rfl) (by kernel_rfl) (Does.call (f := 19) (args := [.agg #[.int .i64 a0.f0, .int .i64 a0.f1]]) (by kernel_rfl) (fun W hI => (grapevineref2_May_calls a0  t41 ht42 hI))) ?_
              rintro _ _ _ ⟨rfl, rfl, rfl⟩
              refine ⟨_, _, Under.refl, Under.refl, ?_⟩
              refine WA.pure [27, 28, 29] [40] (m := 3) (b' := 1073741823) (L' := [(40, .bool (false == t41))]) (by kernel_rfl) (NoPanic.then (NoPanic.body)) Under.refl hS (by kernel_rfl) ?_
              refine WA.split 40 (b := (false == t41)) (by kernel_rfl) (fun hc => ?_) (fun hc => ?_)
              · replace hc := hc
                rw [if_pos hc] at h
                have hc45 := hc
                clear hc
                rw [Option.bind_eq_some_iff] at h
                obtain ⟨t46, ht47, h⟩ := h
                refine WA.op (i := 30) (m := 2) (b' := 2147483647) (by kernel_rfl) hS (by kernel_rfl) (op := .call { callee := (.value (.func 17)), args := #[], argTypes := #[] }) (ty := 4) (d := some 41) (g := some (29, true)) (by kernel_rfl) (by kernel_rfl) (by kernel_rfl) (Does.call (f := 17) (args := []) (by kernel_rfl) (fun W hI => (grapevinelaw2_awake_calls k   t46 ht47 hI))) ?_
                rintro _ _ _ ⟨rfl, rfl, rfl⟩
                refine ⟨_, _, Under.refl, Under.refl, ?_⟩
                refine WA.pure [31, 32] [6] (m := 0) (b' := 8589934591) (L' := [(6, .bool t46)]) (by kernel_rfl) (NoPanic.then (NoPanic.body)) Under.refl hS (by kernel_rfl) ?_
                refine WA.done hS (by kernel_rfl) ?_
                refine QP.pick [6] ?_
                refine QP.pick [6] ?_
                exact QP.meet ⟨_, Option.some.inj h, rfl, rfl, rfl⟩
              · replace hc := (Bool.eq_false_iff.1 hc)
                rw [if_neg hc] at h
                have hc45 := hc
                clear hc
                refine WA.pure [30, 31, 32] [6] (m := 0) (b' := 8589934591) (L' := [(6, .bool false)]) (by kernel_rfl) (NoPanic.then (NoPanic.body)) Under.refl hS (by kernel_rfl) ?_
                refine WA.done hS (by kernel_rfl) ?_
                refine QP.pick [6] ?_
                refine QP.pick [6] ?_
                exact QP.meet ⟨_, Option.some.inj h, rfl, rfl, rfl⟩
            · rw [hx] at h
              rw [Option.elim_some] at h
              clear hx
              refine ⟨_, _, Under.cons (Under.refl), Under.refl, ?_⟩
              refine WA.pure [24] [32, 35, 36] (m := 7) (b' := 67108863) (L' := [(32, .bool true), (35, .bool true), (36, .agg #[.int .i64 a0.f0, .int .i64 a0.f1])]) (by kernel_rfl) (NoPanic.then (NoPanic.body)) Under.refl hS (by kernel_rfl) ?_
              rw [Option.bind_eq_some_iff] at h
              obtain ⟨t50, ht51, h⟩ := h
              refine WA.op (i := 26) (m := 6) (b' := 134217727) (by kernel_rfl) hS (by kernel_rfl) (op := .call { callee := (.value (.func 19)), args := #[(.tmp 36)], argTypes := #[23] }) (ty := 4) (d := some 37) (g := some (21, true)) (by kernel_rfl) (by kernel_rfl) (by kernel_rfl) (Does.call (f := 19) (args := [.agg #[.int .i64 a0.f0, .int .i64 a0.f1]]) (by kernel_rfl) (fun W hI => (grapevineref2_May_calls a0  t50 ht51 hI))) ?_
              rintro _ _ _ ⟨rfl, rfl, rfl⟩
              refine ⟨_, _, Under.refl, Under.refl, ?_⟩
              refine WA.pure [27, 28, 29] [40] (m := 3) (b' := 1073741823) (L' := [(40, .bool (true == t50))]) (by kernel_rfl) (NoPanic.then (NoPanic.body)) Under.refl hS (by kernel_rfl) ?_
              refine WA.split 40 (b := (true == t50)) (by kernel_rfl) (fun hc => ?_) (fun hc => ?_)
              · replace hc := hc
                rw [if_pos hc] at h
                have hc54 := hc
                clear hc
                rw [Option.bind_eq_some_iff] at h
                obtain ⟨t55, ht56, h⟩ := h
                refine WA.op (i := 30) (m := 2) (b' := 2147483647) (by kernel_rfl) hS (by kernel_rfl) (op := .call { callee := (.value (.func 17)), args := #[], argTypes := #[] }) (ty := 4) (d := some 41) (g := some (29, true)) (by kernel_rfl) (by kernel_rfl) (by kernel_rfl) (Does.call (f := 17) (args := []) (by kernel_rfl) (fun W hI => (grapevinelaw2_awake_calls k   t55 ht56 hI))) ?_
                rintro _ _ _ ⟨rfl, rfl, rfl⟩
                refine ⟨_, _, Under.refl, Under.refl, ?_⟩
                refine WA.pure [31, 32] [6] (m := 0) (b' := 8589934591) (L' := [(6, .bool t55)]) (by kernel_rfl) (NoPanic.then (NoPanic.body)) Under.refl hS (by kernel_rfl) ?_
                refine WA.done hS (by kernel_rfl) ?_
                refine QP.pick [6] ?_
                refine QP.dropAt 0 ?_
                refine QP.pick [6] ?_
                exact QP.meet ⟨_, Option.some.inj h, rfl, rfl, rfl⟩
              · replace hc := (Bool.eq_false_iff.1 hc)
                rw [if_neg hc] at h
                have hc54 := hc
                clear hc
                refine WA.pure [30, 31, 32] [6] (m := 0) (b' := 8589934591) (L' := [(6, .bool false)]) (by kernel_rfl) (NoPanic.then (NoPanic.body)) Under.refl hS (by kernel_rfl) ?_
                refine WA.done hS (by kernel_rfl) ?_
                refine QP.pick [6] ?_
                refine QP.dropAt 0 ?_
                refine QP.pick [6] ?_
                exact QP.meet ⟨_, Option.some.inj h, rfl, rfl, rfl⟩
          · replace hc := of_decide_eq_false hc
            rw [if_neg hc] at h
            have hc36 := hc
            clear hc
            refine WA.pure [22, 23, 24, 25, 26, 27, 28, 29, 30, 31, 32] [6] (m := 0) (b' := 8589934591) (L' := [(6, .bool false)]) (by kernel_rfl) (NoPanic.then (NoPanic.body)) Under.refl hS (by kernel_rfl) ?_
            refine WA.done hS (by kernel_rfl) ?_
            refine QP.pick [6] ?_
            refine QP.pick [6] ?_
            exact QP.meet ⟨_, Option.some.inj h, rfl, rfl, rfl⟩
        · replace hc := (Bool.eq_false_iff.1 hc)
          rw [if_neg hc] at h
          have hc27 := hc
          clear hc
          refine WA.pure [15, 16, 17, 18, 19, 20, 21, 22, 23, 24, 25, 26, 27, 28, 29, 30, 31, 32] [6] (m := 0) (b' := 8589934591) (L' := [(6, .bool false)]) (by kernel_rfl) (NoPanic.then (NoPanic.body)) Under.refl hS (by kernel_rfl) ?_
          refine WA.done hS (by kernel_rfl) ?_
          refine QP.pick [6] ?_
          refine QP.pick [6] ?_
          exact QP.meet ⟨_, Option.some.inj h, rfl, rfl, rfl⟩
      · replace hc := (Bool.eq_false_iff.1 hc)
        rw [if_neg hc] at h
        have hc18 := hc
        clear hc
        refine WA.pure [6, 7, 8, 9, 10, 11, 12, 13, 14, 15, 16, 17, 18, 19, 20, 21, 22, 23, 24, 25, 26, 27, 28, 29, 30, 31, 32] [6] (m := 0) (b' := 8589934591) (L' := [(6, .bool false)]) (by kernel_rfl) (NoPanic.then (NoPanic.body)) Under.refl hS (by kernel_rfl) ?_
        refine WA.done hS (by kernel_rfl) ?_
        refine QP.pick [6] ?_
        refine QP.pick [6] ?_
        exact QP.meet ⟨_, Option.some.inj h, rfl, rfl, rfl⟩
    · rintro _ _ _ ⟨s8, rfl, rfl, rfl, rfl⟩
      clear h
      replace h := hk9
      refine WP.ret ?_
      obtain rfl := Option.some.inj h
      refine QP.dropAt 1 ?_
      refine QP.dropAt 0 ?_
      exact QP.returned [6] [.bool s8] _ (by kernel_rfl) (by kernel_rfl) (by kernel_rfl) (fun W hI => ⟨_, _, _, rfl, ⟨rfl, rfl, rfl⟩, hI⟩)
/-- The plain law. -/
def StampTells_Pure : Prop := ∀ (a0 : T23) (a1 : T23) (l2 : List T23), ((Lit.int .i64 a0.f0).wf = true ∧ (Lit.int .i64 a0.f1).wf = true) → ((Lit.int .i64 a1.f0).wf = true ∧ (Lit.int .i64 a1.f1).wf = true) → (l2.length ≤ maxLen ∧ ∀ z0 ∈ l2, ((Lit.int .i64 z0.f0).wf = true ∧ (Lit.int .i64 z0.f1).wf = true)) → ∃ k, grapevinelaw2_StampTells k a0 a1 l2 = some true
end Go.Proofs.Ytmphcmgbognmnaa.Gf
