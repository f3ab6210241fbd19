/- Walks of Go functions: what each tells, as a plain Lean function, and that the Go code comes to it. Written by gg.py of this repo. -/
import Derived.Test.YtanogihdhnhpaaaT
import Derived.Test.YtanogihdhnhpaaaF0
import Derived.Test.YtanogihdhnhpaaaF1
namespace Go.Proofs.Ytanogihdhnhpaaa.Gf
open Go Go.Gg
set_option maxRecDepth 100000
set_option linter.unusedVariables false
set_option linter.unusedSimpArgs false

/-! ### grapevine/grapevinelaw6.FrameLays: function 6 -/
def grapevinelaw6_FrameLays (k : Nat) (a0 : Int) (l1 : List Int) : Option Bool := (if (l1.length : Int) > 70000 then ((grapevinelaw6_awake k ).bind fun t2 => some t2) else ((frame_Lay k a0 l1).bind fun t4 => ((grapevineref6_Lay k a0 l1).bind fun t7 => (((grapevinelaw0_SameBytes k t4.1 t7.1).bind fun t12 => (if t12 = true then ((grapevinelaw0_Num t4.2).bind fun t17 => (if t17 = t7.2 then ((grapevinelaw6_awake k ).bind fun t20 => some t20) else some false)) else some false)).bind fun s10 => some s10))))
set_option maxHeartbeats 4000000 in
theorem grapevinelaw6_FrameLays_calls {B : World} {G : GMap} {Γ : List Chunk} {W : World} (k : Nat) (a0 : Int) (l1 : List Int) (Al1 : Option Addr) (cl1 : Nat) (Hl1 : Rd (kInt .u8) G Al1 cl1 l1) (r : Bool) (h : grapevinelaw6_FrameLays k a0 l1 = some r) (hI : Inv B G (Γ) W) :
    Calls Try.prog 6 [.int .i64 a0, .slice Al1 l1.length cl1].toArray W (Ret B (fun v G' Γ' => v = .bool r ∧ G = G' ∧ Γ = Γ')) := by
  refine calls_WP (Γ := Γ) (G := G) (B := B) Try.func6 rfl (by kernel_rfl) ?_ hI
  clear hI
  unfold grapevinelaw6_FrameLays at h
  refine WP.seqP [0, 1] (L' := [(0, .int .i64 a0), (1, .slice Al1 l1.length cl1)]) (by kernel_rfl) ?_
  refine WP.seq ?_
  refine WP.seqP [0, 1, 11] (L' := [(0, .int .i64 a0), (1, .slice Al1 l1.length cl1), (11, .bool (decide ((l1.length : Int) > 70000)))]) (by kernel_rfl) ?_
  refine WP.cond (b := decide ((l1.length : Int) > 70000)) (by kernel_rfl) (fun hc => ?_) (fun hc => ?_)
  · replace hc := of_decide_eq_true hc
    rw [if_pos hc] at h
    have hc1 := hc
    clear hc
    refine WP.seqR ?_
    rw [Option.bind_eq_some_iff] at h
    obtain ⟨t2, ht3, h⟩ := h
    refine WL.op (op := .call { callee := (.value (.func 18)), args := #[], argTypes := #[] }) (ty := 4) (d := some 12) (g := none) (by kernel_rfl) (by kernel_rfl) (by kernel_rfl) (Does.call (f := 18) (args := []) (by kernel_rfl) (fun W hI => (grapevinelaw6_awake_calls k   t2 ht3 hI))) ?_
    rintro _ _ _ ⟨rfl, rfl, rfl⟩
    refine WL.restQ 1 [4] (L' := [(4, .bool t2)]) (by kernel_rfl) ?_
    refine WP.ret ?_
    refine QP.thenR ?_
    obtain rfl := Option.some.inj h
    exact QP.returned [4] [.bool t2] _ (by kernel_rfl) (by kernel_rfl) (by kernel_rfl) (fun W hI => ⟨_, _, _, rfl, ⟨rfl, rfl, rfl⟩, hI⟩)
  · replace hc := of_decide_eq_false hc
    rw [if_neg hc] at h
    have hc1 := hc
    clear hc
    refine WP.skip ?_
    refine QP.next ?_
    refine WP.pick [0, 1] ?_
    refine WP.seqR ?_
    refine WL.pure 0 2 [0, 1, 14, 15] (L' := [(0, .int .i64 a0), (1, .slice Al1 l1.length cl1), (14, .int .i64 a0), (15, .slice Al1 l1.length cl1)]) (by kernel_rfl) (by decide) ?_
    rw [Option.bind_eq_some_iff] at h
    obtain ⟨t4, ht5, h⟩ := h
    refine WL.op (op := .call { callee := (.value (.func 19)), args := #[(.tmp 14), (.tmp 15)], argTypes := #[3, 32] }) (ty := 37) (d := some 16) (g := none) (by kernel_rfl) (by kernel_rfl) (by kernel_rfl) (Does.call (f := 19) (args := [.int .i64 a0, .slice Al1 l1.length cl1]) (by kernel_rfl) (fun W hI => (frame_Lay_calls k a0 l1 Al1 cl1 Hl1 t4 ht5 hI))) ?_
    rintro _ _ _ ⟨AR6, cR6, CR6, rfl, HR6, rfl, rfl⟩
    refine WL.restQ 3 [0, 1, 5, 6] (L' := [(0, .int .i64 a0), (1, .slice Al1 l1.length cl1), (5, .slice AR6 t4.1.length cR6), (6, .int .i64 t4.2)]) (by kernel_rfl) ?_
    refine WP.seqR ?_
    refine WL.pure 0 2 [5, 6, 20, 21] (L' := [(5, .slice AR6 t4.1.length cR6), (6, .int .i64 t4.2), (20, .int .i64 a0), (21, .slice Al1 l1.length cl1)]) (by kernel_rfl) (by decide) ?_
    rw [Option.bind_eq_some_iff] at h
    obtain ⟨t7, ht8, h⟩ := h
    refine WL.op (op := .call { callee := (.value (.func 20)), args := #[(.tmp 20), (.tmp 21)], argTypes := #[3, 32] }) (ty := 39) (d := some 22) (g := none) (by kernel_rfl) (by kernel_rfl) (by kernel_rfl) (Does.call (f := 20) (args := [.int .i64 a0, .slice Al1 l1.length cl1]) (by kernel_rfl) (fun W hI => (grapevineref6_Lay_calls k a0 l1 Al1 cl1 Hl1 t7 ht8 hI))) ?_
    rintro _ _ _ ⟨AR9, cR9, CR9, rfl, HR9, rfl, rfl⟩
    refine WL.restQ 3 [5, 6, 7, 8] (L' := [(5, .slice AR6 t4.1.length cR6), (6, .int .i64 t4.2), (7, .slice AR9 t7.1.length cR9), (8, .int .i64 t7.2)]) (by kernel_rfl) ?_
    rw [Option.bind_eq_some_iff] at h
    obtain ⟨os10, h, hk11⟩ := h
    refine WP.cut (fun L' G' Γ' => ∃ s10 : Bool, s10 = os10 ∧ L' = [(4, .bool s10)] ∧ G = G' ∧ CR9 :: CR6 :: Γ = Γ') ?_ ?_
    · clear hk11
      refine WP.region ?_
      refine WL.pure 0 2 [6, 8, 25, 26] (L' := [(6, .int .i64 t4.2), (8, .int .i64 t7.2), (25, .slice AR6 t4.1.length cR6), (26, .slice AR9 t7.1.length cR9)]) (by kernel_rfl) (by decide) ?_
      rw [Option.bind_eq_some_iff] at h
      obtain ⟨t12, ht13, h⟩ := h
      refine WL.op (op := .call { callee := (.value (.func 21)), args := #[(.tmp 25), (.tmp 26)], argTypes := #[32, 32] }) (ty := 4) (d := some 27) (g := none) (by kernel_rfl) (by kernel_rfl) (by kernel_rfl) (Does.call (Φ := fun v' G' Γ' => v' = .bool t12 ∧ G = G' ∧ CR9 :: CR6 :: Γ = Γ') (f := 21) (args := [.slice AR6 t4.1.length cR6, .slice AR9 t7.1.length cR9]) (by kernel_rfl) (fun W hI => Calls.lend (i := 1) rfl (Ow.nodup HR6) hI (fun _ e l14 hI => by subst e; exact Calls.lend (i := 0) rfl (Ow.nodup (HR9.mono l14)) hI (fun _ e l15 hI => by subst e; exact (grapevinelaw0_SameBytes_calls k t4.1 t7.1 AR6 cR6 ((HR6.rd l14).mono l15) AR9 cR9 ((HR9.mono l14).rd l15) t12 ht13 hI))))) ?_
      rintro _ _ _ ⟨rfl, rfl, rfl⟩
      refine WL.pure 3 4 [6, 8, 28] (L' := [(6, .int .i64 t4.2), (8, .int .i64 t7.2), (28, .bool t12)]) (by kernel_rfl) (by decide) ?_
      refine WL.split 28 (b := t12) (by kernel_rfl) (fun hc => ?_) (fun hc => ?_)
      · replace hc := hc
        rw [if_pos hc] at h
        have hc16 := hc
        clear hc
        refine WL.pure 4 5 [8, 28, 29] (L' := [(8, .int .i64 t7.2), (28, .bool true), (29, .int .i64 t4.2)]) (by kernel_rfl) (by decide) ?_
        rw [Option.bind_eq_some_iff] at h
        obtain ⟨t17, ht18, h⟩ := h
        refine WL.op (op := .call { callee := (.value (.func 22)), args := #[(.tmp 29)], argTypes := #[36] }) (ty := 3) (d := some 30) (g := some (3, true)) (by kernel_rfl) (by kernel_rfl) (by kernel_rfl) (Does.call (f := 22) (args := [.int .i64 t4.2]) (by kernel_rfl) (fun W hI => (grapevinelaw0_Num_calls t4.2  t17 ht18 hI))) ?_
        rintro _ _ _ ⟨rfl, rfl, rfl⟩
        refine WL.pure 6 10 [34] (L' := [(34, .bool (t17 == t7.2))]) (by kernel_rfl) (by decide) ?_
        refine WL.split 34 (b := (t17 == t7.2)) (by kernel_rfl) (fun hc => ?_) (fun hc => ?_)
        · replace hc := eq_of_beq hc
          rw [if_pos hc] at h
          have hc19 := hc
          clear hc
          rw [Option.bind_eq_some_iff] at h
          obtain ⟨t20, ht21, h⟩ := h
          refine WL.op (op := .call { callee := (.value (.func 18)), args := #[], argTypes := #[] }) (ty := 4) (d := some 35) (g := some (9, true)) (by kernel_rfl) (by kernel_rfl) (by kernel_rfl) (Does.call (f := 18) (args := []) (by kernel_rfl) (fun W hI => (grapevinelaw6_awake_calls k   t20 ht21 hI))) ?_
          rintro _ _ _ ⟨rfl, rfl, rfl⟩
          refine WL.rest 11 [4] (L' := [(4, .bool t20)]) (by kernel_rfl) ?_
          refine QP.pick [4] ?_
          exact QP.meet ⟨_, Option.some.inj h, rfl, rfl, rfl⟩
        · replace hc := ne_of_beq_false hc
          rw [if_neg hc] at h
          have hc19 := hc
          clear hc
          refine WL.rest 10 [4] (L' := [(4, .bool false)]) (by kernel_rfl) ?_
          refine QP.pick [4] ?_
          exact QP.meet ⟨_, Option.some.inj h, rfl, rfl, rfl⟩
      · replace hc := (Bool.eq_false_iff.1 hc)
        rw [if_neg hc] at h
        have hc16 := hc
        clear hc
        refine WL.rest 4 [4] (L' := [(4, .bool false)]) (by kernel_rfl) ?_
        refine QP.pick [4] ?_
        exact QP.meet ⟨_, Option.some.inj h, rfl, rfl, rfl⟩
    · rintro _ _ _ ⟨s10, rfl, rfl, rfl, rfl⟩
      clear h
      replace h := hk11
      refine WP.ret ?_
      obtain rfl := Option.some.inj h
      refine QP.dropAt 1 ?_
      refine QP.dropAt 0 ?_
      exact QP.returned [4] [.bool s10] _ (by kernel_rfl) (by kernel_rfl) (by kernel_rfl) (fun W hI => ⟨_, _, _, rfl, ⟨rfl, rfl, rfl⟩, hI⟩)
/-- The plain law. -/
def FrameLays_Pure : Prop := ∀ (a0 : Int) (l1 : List Int), (Lit.int .i64 a0).wf = true → (l1.length ≤ maxLen ∧ ∀ z0 ∈ l1, (Lit.int .u8 z0).wf = true) → ∃ k, grapevinelaw6_FrameLays k a0 l1 = some true
end Go.Proofs.Ytanogihdhnhpaaa.Gf
