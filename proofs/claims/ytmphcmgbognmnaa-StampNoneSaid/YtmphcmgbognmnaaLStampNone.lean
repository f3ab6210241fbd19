/- Walks of Go functions: what each tells, as a plain Lean function, and that the Go code comes to it. Written by gg.py of this repo. -/
import Derived.Test.YtmphcmgbognmnaaT
import Derived.Test.YtmphcmgbognmnaaF0
namespace Go.Proofs.Ytmphcmgbognmnaa.Gf
open Go Go.Gg
set_option maxRecDepth 100000
set_option linter.unusedVariables false
set_option linter.unusedSimpArgs false

/-! ### grapevine/grapevinelaw2.StampNone: function 6 -/
def grapevinelaw2_StampNone (k : Nat) (a0 : Int) : Option Bool := ((stamp_Clock_Tick_22 a0).bind fun t1 => ((if t1.1 = (⟨0, 0⟩ : T23) then (if t1.2 = 1 then ((stamp_Clock_See_23 (⟨0, 0⟩ : T23) a0).bind fun t10 => (if t10 = 1 then ((stamp_Clock_Last_24 ).bind fun t15 => (if t15 = (⟨0, 0⟩ : T23) then ((grapevinelaw2_awake k ).bind fun t20 => some t20) else some false)) else some false)) else some false) else some false).bind fun s6 => some s6))
set_option maxHeartbeats 4000000 in
theorem grapevinelaw2_StampNone_calls {B : World} {G : GMap} {Γ : List Chunk} {W : World} (k : Nat) (a0 : Int) (r : Bool) (h : grapevinelaw2_StampNone k a0 = some r) (hI : Inv B G (Γ) W) :
    Calls Try.prog 6 [.int .i64 a0].toArray W (Ret B (fun v G' Γ' => v = .bool r ∧ G = G' ∧ Γ = Γ')) := by
  refine calls_WP (Γ := Γ) (G := G) (B := B) Try.func6 rfl (by kernel_rfl) ?_ hI
  clear hI
  unfold grapevinelaw2_StampNone at h
  refine WP.seqP [0] (L' := [(0, .int .i64 a0)]) (by kernel_rfl) ?_
  refine WP.seqP [0, 3] (L' := [(0, .int .i64 a0), (3, .pointer none)]) (by kernel_rfl) ?_
  refine WP.seqR ?_
  refine WL.pure 0 2 [0, 3, 7, 8] (L' := [(0, .int .i64 a0), (3, .pointer none), (7, .pointer none), (8, .int .i64 a0)]) (by kernel_rfl) (by decide) ?_
  rw [Option.bind_eq_some_iff] at h
  obtain ⟨t1, ht2, h⟩ := h
  refine WL.op (op := .call { callee := (.value (.func 29)), args := #[(.tmp 7), (.tmp 8)], argTypes := #[30, 3] }) (ty := 44) (d := some 9) (g := none) (by kernel_rfl) (by kernel_rfl) (by kernel_rfl) (Does.call (f := 29) (args := [.pointer none, .int .i64 a0]) (by kernel_rfl) (fun W hI => (stamp_Clock_Tick_22_calls a0  t1 ht2 hI))) ?_
  rintro _ _ _ ⟨rfl, rfl, rfl⟩
  refine WL.pure 3 6 [0, 3, 10, 11] (L' := [(0, .int .i64 a0), (3, .pointer none), (10, .agg #[.int .i64 t1.1.f0, .int .i64 t1.1.f1]), (11, .int .i64 t1.2)]) (by kernel_rfl) (by decide) ?_
  refine WL.op (op := .alloc 23) (ty := 0) (d := some 4) (g := none) (by kernel_rfl) (by kernel_rfl) (by kernel_rfl) (Does.new (o := .cells #[.int .i64 0, .int .i64 0] 23 (0, 0)) (v := fun r => .pointer (some ⟨r, 0, none⟩)) (fun r => by kernel_rfl)) ?_
  rintro _ _ _ ⟨b5, rfl, rfl, rfl⟩
  refine WL.op (op := .store 23 (.tmp 4) (.tmp 10)) (ty := 0) (d := none) (g := none) (by kernel_rfl) (by kernel_rfl) (by kernel_rfl) (Does.store_box (i := 0) (b := b5) (o := 0) (v := .agg #[.int .i64 t1.1.f0, .int .i64 t1.1.f1]) (by rfl) sz23 (by kernel_rfl) (by kernel_rfl) (by kernel_rfl) (Free.zero _) (Nat.le_of_ble_eq_true rfl) (cells' := #[.int .i64 t1.1.f0, .int .i64 t1.1.f1]) (by kernel_rfl)) ?_
  rintro _ _ _ ⟨rfl, rfl, rfl⟩
  refine WL.restQ 8 [0, 3, 4, 5] (L' := [(0, .int .i64 a0), (3, .pointer none), (4, .pointer (some ⟨b5, 0, none⟩)), (5, .int .i64 t1.2)]) (by kernel_rfl) ?_
  rw [Option.bind_eq_some_iff] at h
  obtain ⟨os6, h, hk7⟩ := h
  refine WP.cut (fun L' G' Γ' => ∃ s6 : Bool, s6 = os6 ∧ L' = [(2, .bool s6)] ∧ G = G' ∧ [(b5, .cells #[.int .i64 t1.1.f0, .int .i64 t1.1.f1] 23 (0, 0))] :: Γ = Γ') ?_ ?_
  · clear hk7
    refine WP.region ?_
    refine WL.tell (op := .load 23 (.tmp 4)) (ty := 23) (d := some 12) (g := none) (by kernel_rfl) (by kernel_rfl) (by kernel_rfl) (Tells.load_box (i := 0) (b := b5) (o := 0) (agg := true) (by rfl) ag23 (by kernel_rfl) (fun h => by cases h) (Nat.le_of_ble_eq_true rfl) (v := .agg #[.int .i64 t1.1.f0, .int .i64 t1.1.f1]) (by kernel_rfl)) ?_
    refine WL.pure 1 2 [0, 3, 5, 12, 13] (L' := [(0, .int .i64 a0), (3, .pointer none), (5, .int .i64 t1.2), (12, .agg #[.int .i64 t1.1.f0, .int .i64 t1.1.f1]), (13, .agg #[.int .i64 0, .int .i64 0])]) (by kernel_rfl) (by decide) ?_
    refine WL.tell (op := .binOp .eql 23 (.tmp 12) (.tmp 13) 23) (ty := 4) (d := some 14) (g := none) (by kernel_rfl) (by kernel_rfl) (by kernel_rfl) (Tells.eqAgg (xs := #[.int .i64 t1.1.f0, .int .i64 t1.1.f1]) (ys := #[.int .i64 0, .int .i64 0]) (ls := [.int t1.1.f0 0, .int t1.1.f1 0]) (by kernel_rfl) (by kernel_rfl) (by kernel_rfl) eg23) ?_
    refine WL.reput 14 (v := .bool ([.int t1.1.f0 0, .int t1.1.f1 0].all Lf.ok)) (v' := .bool (decide (t1.1 = (⟨0, 0⟩ : T23)))) (by kernel_rfl) (by exact (congrArg Value.bool (eqT23 t1.1 (⟨0, 0⟩ : T23)))) ?_
    refine WL.pure 3 4 [0, 3, 5, 15] (L' := [(0, .int .i64 a0), (3, .pointer none), (5, .int .i64 t1.2), (15, .bool (decide (t1.1 = (⟨0, 0⟩ : T23))))]) (by kernel_rfl) (by decide) ?_
    refine WL.split 15 (b := decide (t1.1 = (⟨0, 0⟩ : T23))) (by kernel_rfl) (fun hc => ?_) (fun hc => ?_)
    · replace hc := of_decide_eq_true hc
      rw [if_pos hc] at h
      have hc8 := hc
      clear hc
      refine WL.pure 4 8 [0, 3, 19] (L' := [(0, .int .i64 a0), (3, .pointer none), (19, .bool (t1.2 == 1))]) (by kernel_rfl) (by decide) ?_
      refine WL.split 19 (b := (t1.2 == 1)) (by kernel_rfl) (fun hc => ?_) (fun hc => ?_)
      · replace hc := eq_of_beq hc
        rw [if_pos hc] at h
        have hc9 := hc
        clear hc
        refine WL.pure 8 11 [3, 19, 20, 21, 22] (L' := [(3, .pointer none), (19, .bool true), (20, .pointer none), (21, .agg #[.int .i64 0, .int .i64 0]), (22, .int .i64 a0)]) (by kernel_rfl) (by decide) ?_
        rw [Option.bind_eq_some_iff] at h
        obtain ⟨t10, ht11, h⟩ := h
        refine WL.op (op := .call { callee := (.value (.func 27)), args := #[(.tmp 20), (.tmp 21), (.tmp 22)], argTypes := #[30, 23, 3] }) (ty := 41) (d := some 23) (g := some (7, true)) (by kernel_rfl) (by kernel_rfl) (by kernel_rfl) (Does.call (f := 27) (args := [.pointer none, .agg #[.int .i64 0, .int .i64 0], .int .i64 a0]) (by kernel_rfl) (fun W hI => (stamp_Clock_See_23_calls (⟨0, 0⟩ : T23) a0  t10 ht11 hI))) ?_
        rintro _ _ _ ⟨rfl, rfl, rfl⟩
        refine WL.pure 12 15 [3, 26] (L' := [(3, .pointer none), (26, .bool (t10 == 1))]) (by kernel_rfl) (by decide) ?_
        refine WL.split 26 (b := (t10 == 1)) (by kernel_rfl) (fun hc => ?_) (fun hc => ?_)
        · replace hc := eq_of_beq hc
          rw [if_pos hc] at h
          have hc14 := hc
          clear hc
          refine WL.pure 15 16 [26, 27] (L' := [(26, .bool true), (27, .pointer none)]) (by kernel_rfl) (by decide) ?_
          rw [Option.bind_eq_some_iff] at h
          obtain ⟨t15, ht16, h⟩ := h
          refine WL.op (op := .call { callee := (.value (.func 25)), args := #[(.tmp 27)], argTypes := #[30] }) (ty := 23) (d := some 28) (g := some (14, true)) (by kernel_rfl) (by kernel_rfl) (by kernel_rfl) (Does.call (f := 25) (args := [.pointer none]) (by kernel_rfl) (fun W hI => (stamp_Clock_Last_24_calls   t15 ht16 hI))) ?_
          rintro _ _ _ ⟨rfl, rfl, rfl⟩
          refine WL.pure 17 18 [26, 28, 29] (L' := [(26, .bool true), (28, .agg #[.int .i64 t15.f0, .int .i64 t15.f1]), (29, .agg #[.int .i64 0, .int .i64 0])]) (by kernel_rfl) (by decide) ?_
          refine WL.tell (op := .binOp .eql 23 (.tmp 28) (.tmp 29) 23) (ty := 4) (d := some 30) (g := some (14, true)) (by kernel_rfl) (by kernel_rfl) (by kernel_rfl) (Tells.eqAgg (xs := #[.int .i64 t15.f0, .int .i64 t15.f1]) (ys := #[.int .i64 0, .int .i64 0]) (ls := [.int t15.f0 0, .int t15.f1 0]) (by kernel_rfl) (by kernel_rfl) (by kernel_rfl) eg23) ?_
          refine WL.reput 30 (v := .bool ([.int t15.f0 0, .int t15.f1 0].all Lf.ok)) (v' := .bool (decide (t15 = (⟨0, 0⟩ : T23)))) (by kernel_rfl) (by exact (congrArg Value.bool (eqT23 t15 (⟨0, 0⟩ : T23)))) ?_
          refine WL.pure 19 21 [32] (L' := [(32, .bool (decide (t15 = (⟨0, 0⟩ : T23))))]) (by kernel_rfl) (by decide) ?_
          refine WL.split 32 (b := decide (t15 = (⟨0, 0⟩ : T23))) (by kernel_rfl) (fun hc => ?_) (fun hc => ?_)
          · replace hc := of_decide_eq_true hc
            rw [if_pos hc] at h
            have hc19 := hc
            clear hc
            rw [Option.bind_eq_some_iff] at h
            obtain ⟨t20, ht21, h⟩ := h
            refine WL.op (op := .call { callee := (.value (.func 17)), args := #[], argTypes := #[] }) (ty := 4) (d := some 33) (g := some (20, true)) (by kernel_rfl) (by kernel_rfl) (by kernel_rfl) (Does.call (f := 17) (args := []) (by kernel_rfl) (fun W hI => (grapevinelaw2_awake_calls k   t20 ht21 hI))) ?_
            rintro _ _ _ ⟨rfl, rfl, rfl⟩
            refine WL.rest 22 [2] (L' := [(2, .bool t20)]) (by kernel_rfl) ?_
            refine QP.pick [2] ?_
            exact QP.meet ⟨_, Option.some.inj h, rfl, rfl, rfl⟩
          · replace hc := of_decide_eq_false hc
            rw [if_neg hc] at h
            have hc19 := hc
            clear hc
            refine WL.rest 21 [2] (L' := [(2, .bool false)]) (by kernel_rfl) ?_
            refine QP.pick [2] ?_
            exact QP.meet ⟨_, Option.some.inj h, rfl, rfl, rfl⟩
        · replace hc := ne_of_beq_false hc
          rw [if_neg hc] at h
          have hc14 := hc
          clear hc
          refine WL.rest 15 [2] (L' := [(2, .bool false)]) (by kernel_rfl) ?_
          refine QP.pick [2] ?_
          exact QP.meet ⟨_, Option.some.inj h, rfl, rfl, rfl⟩
      · replace hc := ne_of_beq_false hc
        rw [if_neg hc] at h
        have hc9 := hc
        clear hc
        refine WL.rest 8 [2] (L' := [(2, .bool false)]) (by kernel_rfl) ?_
        refine QP.pick [2] ?_
        exact QP.meet ⟨_, Option.some.inj h, rfl, rfl, rfl⟩
    · replace hc := of_decide_eq_false hc
      rw [if_neg hc] at h
      have hc8 := hc
      clear hc
      refine WL.rest 4 [2] (L' := [(2, .bool false)]) (by kernel_rfl) ?_
      refine QP.pick [2] ?_
      exact QP.meet ⟨_, Option.some.inj h, rfl, rfl, rfl⟩
  · rintro _ _ _ ⟨s6, rfl, rfl, rfl, rfl⟩
    clear h
    replace h := hk7
    refine WP.ret ?_
    obtain rfl := Option.some.inj h
    refine QP.dropAt 0 ?_
    exact QP.returned [2] [.bool s6] _ (by kernel_rfl) (by kernel_rfl) (by kernel_rfl) (fun W hI => ⟨_, _, _, rfl, ⟨rfl, rfl, rfl⟩, hI⟩)
/-- The plain law. -/
def StampNone_Pure : Prop := ∀ (a0 : Int), (Lit.int .i64 a0).wf = true → ∃ k, grapevinelaw2_StampNone k a0 = some true
end Go.Proofs.Ytmphcmgbognmnaa.Gf
