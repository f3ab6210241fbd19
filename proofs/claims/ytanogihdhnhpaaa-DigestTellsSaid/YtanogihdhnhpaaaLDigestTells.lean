/- Walks of Go functions: what each tells, as a plain Lean function, and that the Go code comes to it. Written by gg.py of this repo. -/
import Derived.Test.YtanogihdhnhpaaaT
import Derived.Test.YtanogihdhnhpaaaF0
namespace Go.Proofs.Ytanogihdhnhpaaa.Gf
open Go Go.Gg
set_option maxRecDepth 100000
set_option linter.unusedVariables false
set_option linter.unusedSimpArgs false

/-! ### grapevine/grapevinelaw5.DigestTells: function 3 -/
def grapevinelaw5_DigestTells (k : Nat) (l0 : List (List Int)) (l1 : List Int) : Option Bool := (((grapevinelaw5_great k l0).bind fun t3 => (if t3 = true then some true else some (decide ((l1.length : Int) > 60)))).bind fun s1 => (if s1 = true then ((grapevinelaw5_awake k ).bind fun t7 => some t7) else (((digest_Of k l0).bind fun t11 => ((grapevineref5_Of k l0).bind fun t13 => (if t11 = t13 then ((digest_All k l1).bind fun t16 => ((grapevineref5_All k l1).bind fun t18 => (if t16 = t18 then ((grapevinelaw5_awake k ).bind fun t21 => some t21) else some false))) else some false))).bind fun s9 => some s9)))
set_option maxHeartbeats 4000000 in
theorem grapevinelaw5_DigestTells_calls {B : World} {G : GMap} {Γ : List Chunk} {W : World} (k : Nat) (l0 : List (List Int)) (l1 : List Int) (Al0 : Option Addr) (cl0 : Nat) (Hl0 : Rd (kSlice (kInt .u8)) G Al0 cl0 l0) (Al1 : Option Addr) (cl1 : Nat) (Hl1 : Rd (kInt .u64) G Al1 cl1 l1) (r : Bool) (h : grapevinelaw5_DigestTells k l0 l1 = some r) (hI : Inv B G (Γ) W) :
    Calls Try.prog 3 [.slice Al0 l0.length cl0, .slice Al1 l1.length cl1].toArray W (Ret B (fun v G' Γ' => v = .bool r ∧ G = G' ∧ Γ = Γ')) := by
  refine calls_WP (Γ := Γ) (G := G) (B := B) Try.func3 rfl (by kernel_rfl) ?_ hI
  clear hI
  unfold grapevinelaw5_DigestTells at h
  refine WP.seqP [0, 1] (L' := [(0, .slice Al0 l0.length cl0), (1, .slice Al1 l1.length cl1)]) (by kernel_rfl) ?_
  refine WP.seq ?_
  rw [Option.bind_eq_some_iff] at h
  obtain ⟨os1, h, hk2⟩ := h
  refine WP.cut (fun L' G' Γ' => ∃ s1 : Bool, s1 = os1 ∧ L' = [(0, .slice Al0 l0.length cl0), (1, .slice Al1 l1.length cl1), (11, .bool s1)] ∧ G = G' ∧ Γ = Γ') ?_ ?_
  · clear hk2
    refine WP.region ?_
    refine WL.pure 0 1 [0, 1, 5] (L' := [(0, .slice Al0 l0.length cl0), (1, .slice Al1 l1.length cl1), (5, .slice Al0 l0.length cl0)]) (by kernel_rfl) (by decide) ?_
    rw [Option.bind_eq_some_iff] at h
    obtain ⟨t3, ht4, h⟩ := h
    refine WL.op (op := .call { callee := (.value (.func 11)), args := #[(.tmp 5)], argTypes := #[22] }) (ty := 4) (d := some 6) (g := none) (by kernel_rfl) (by kernel_rfl) (by kernel_rfl) (Does.call (f := 11) (args := [.slice Al0 l0.length cl0]) (by kernel_rfl) (fun W hI => (grapevinelaw5_great_calls k l0 Al0 cl0 Hl0 t3 ht4 hI))) ?_
    rintro _ _ _ ⟨rfl, rfl, rfl⟩
    refine WL.pure 2 3 [0, 1, 7] (L' := [(0, .slice Al0 l0.length cl0), (1, .slice Al1 l1.length cl1), (7, .bool t3)]) (by kernel_rfl) (by decide) ?_
    refine WL.split 7 (b := t3) (by kernel_rfl) (fun hc => ?_) (fun hc => ?_)
    · replace hc := hc
      rw [if_pos hc] at h
      have hc5 := hc
      clear hc
      refine WL.rest 3 [0, 1, 11] (L' := [(0, .slice Al0 l0.length cl0), (1, .slice Al1 l1.length cl1), (11, .bool true)]) (by kernel_rfl) ?_
      refine QP.pick [0, 1, 11] ?_
      exact QP.meet ⟨_, Option.some.inj h, rfl, rfl, rfl⟩
    · replace hc := (Bool.eq_false_iff.1 hc)
      rw [if_neg hc] at h
      have hc5 := hc
      clear hc
      refine WL.rest 3 [0, 1, 11] (L' := [(0, .slice Al0 l0.length cl0), (1, .slice Al1 l1.length cl1), (11, .bool (decide ((l1.length : Int) > 60)))]) (by kernel_rfl) ?_
      refine QP.pick [0, 1, 11] ?_
      exact QP.meet ⟨_, Option.some.inj h, rfl, rfl, rfl⟩
  · rintro _ _ _ ⟨s1, rfl, rfl, rfl, rfl⟩
    clear h
    replace h := hk2
    refine WP.cond (b := s1) (by kernel_rfl) (fun hc => ?_) (fun hc => ?_)
    · replace hc := hc
      rw [if_pos hc] at h
      have hc6 := hc
      clear hc
      refine WP.seqR ?_
      rw [Option.bind_eq_some_iff] at h
      obtain ⟨t7, ht8, h⟩ := h
      refine WL.op (op := .call { callee := (.value (.func 12)), args := #[], argTypes := #[] }) (ty := 4) (d := some 12) (g := none) (by kernel_rfl) (by kernel_rfl) (by kernel_rfl) (Does.call (f := 12) (args := []) (by kernel_rfl) (fun W hI => (grapevinelaw5_awake_calls k   t7 ht8 hI))) ?_
      rintro _ _ _ ⟨rfl, rfl, rfl⟩
      refine WL.restQ 1 [4] (L' := [(4, .bool t7)]) (by kernel_rfl) ?_
      refine WP.ret ?_
      refine QP.thenR ?_
      obtain rfl := Option.some.inj h
      exact QP.returned [4] [.bool t7] _ (by kernel_rfl) (by kernel_rfl) (by kernel_rfl) (fun W hI => ⟨_, _, _, rfl, ⟨rfl, rfl, rfl⟩, hI⟩)
    · replace hc := (Bool.eq_false_iff.1 hc)
      rw [if_neg hc] at h
      have hc6 := hc
      clear hc
      refine WP.skip ?_
      refine QP.next ?_
      refine WP.pick [0, 1] ?_
      rw [Option.bind_eq_some_iff] at h
      obtain ⟨os9, h, hk10⟩ := h
      refine WP.cut (fun L' G' Γ' => ∃ s9 : Bool, s9 = os9 ∧ L' = [(4, .bool s9)] ∧ G = G' ∧ Γ = Γ') ?_ ?_
      · clear hk10
        refine WP.region ?_
        refine WL.pure 0 1 [0, 1, 13] (L' := [(0, .slice Al0 l0.length cl0), (1, .slice Al1 l1.length cl1), (13, .slice Al0 l0.length cl0)]) (by kernel_rfl) (by decide) ?_
        rw [Option.bind_eq_some_iff] at h
        obtain ⟨t11, ht12, h⟩ := h
        refine WL.op (op := .call { callee := (.value (.func 13)), args := #[(.tmp 13)], argTypes := #[22] }) (ty := 26) (d := some 14) (g := none) (by kernel_rfl) (by kernel_rfl) (by kernel_rfl) (Does.call (f := 13) (args := [.slice Al0 l0.length cl0]) (by kernel_rfl) (fun W hI => (digest_Of_calls k l0 Al0 cl0 Hl0 t11 ht12 hI))) ?_
        rintro _ _ _ ⟨rfl, rfl, rfl⟩
        refine WL.pure 2 3 [1, 14, 15] (L' := [(1, .slice Al1 l1.length cl1), (14, .int .u64 t11), (15, .slice Al0 l0.length cl0)]) (by kernel_rfl) (by decide) ?_
        rw [Option.bind_eq_some_iff] at h
        obtain ⟨t13, ht14, h⟩ := h
        refine WL.op (op := .call { callee := (.value (.func 14)), args := #[(.tmp 15)], argTypes := #[22] }) (ty := 26) (d := some 16) (g := none) (by kernel_rfl) (by kernel_rfl) (by kernel_rfl) (Does.call (f := 14) (args := [.slice Al0 l0.length cl0]) (by kernel_rfl) (fun W hI => (grapevineref5_Of_calls k l0 Al0 cl0 Hl0 t13 ht14 hI))) ?_
        rintro _ _ _ ⟨rfl, rfl, rfl⟩
        refine WL.pure 4 6 [1, 18] (L' := [(1, .slice Al1 l1.length cl1), (18, .bool (t11 == t13))]) (by kernel_rfl) (by decide) ?_
        refine WL.split 18 (b := (t11 == t13)) (by kernel_rfl) (fun hc => ?_) (fun hc => ?_)
        · replace hc := eq_of_beq hc
          rw [if_pos hc] at h
          have hc15 := hc
          clear hc
          refine WL.pure 6 7 [1, 18, 19] (L' := [(1, .slice Al1 l1.length cl1), (18, .bool true), (19, .slice Al1 l1.length cl1)]) (by kernel_rfl) (by decide) ?_
          rw [Option.bind_eq_some_iff] at h
          obtain ⟨t16, ht17, h⟩ := h
          refine WL.op (op := .call { callee := (.value (.func 15)), args := #[(.tmp 19)], argTypes := #[23] }) (ty := 26) (d := some 20) (g := some (5, true)) (by kernel_rfl) (by kernel_rfl) (by kernel_rfl) (Does.call (f := 15) (args := [.slice Al1 l1.length cl1]) (by kernel_rfl) (fun W hI => (digest_All_calls k l1 Al1 cl1 Hl1 t16 ht17 hI))) ?_
          rintro _ _ _ ⟨rfl, rfl, rfl⟩
          refine WL.pure 8 9 [18, 20, 21] (L' := [(18, .bool true), (20, .int .u64 t16), (21, .slice Al1 l1.length cl1)]) (by kernel_rfl) (by decide) ?_
          rw [Option.bind_eq_some_iff] at h
          obtain ⟨t18, ht19, h⟩ := h
          refine WL.op (op := .call { callee := (.value (.func 16)), args := #[(.tmp 21)], argTypes := #[23] }) (ty := 26) (d := some 22) (g := some (5, true)) (by kernel_rfl) (by kernel_rfl) (by kernel_rfl) (Does.call (f := 16) (args := [.slice Al1 l1.length cl1]) (by kernel_rfl) (fun W hI => (grapevineref5_All_calls k l1 Al1 cl1 Hl1 t18 ht19 hI))) ?_
          rintro _ _ _ ⟨rfl, rfl, rfl⟩
          refine WL.pure 10 13 [25] (L' := [(25, .bool (t16 == t18))]) (by kernel_rfl) (by decide) ?_
          refine WL.split 25 (b := (t16 == t18)) (by kernel_rfl) (fun hc => ?_) (fun hc => ?_)
          · replace hc := eq_of_beq hc
            rw [if_pos hc] at h
            have hc20 := hc
            clear hc
            rw [Option.bind_eq_some_iff] at h
            obtain ⟨t21, ht22, h⟩ := h
            refine WL.op (op := .call { callee := (.value (.func 12)), args := #[], argTypes := #[] }) (ty := 4) (d := some 26) (g := some (12, true)) (by kernel_rfl) (by kernel_rfl) (by kernel_rfl) (Does.call (f := 12) (args := []) (by kernel_rfl) (fun W hI => (grapevinelaw5_awake_calls k   t21 ht22 hI))) ?_
            rintro _ _ _ ⟨rfl, rfl, rfl⟩
            refine WL.rest 14 [4] (L' := [(4, .bool t21)]) (by kernel_rfl) ?_
            refine QP.pick [4] ?_
            exact QP.meet ⟨_, Option.some.inj h, rfl, rfl, rfl⟩
          · replace hc := ne_of_beq_false hc
            rw [if_neg hc] at h
            have hc20 := hc
            clear hc
            refine WL.rest 13 [4] (L' := [(4, .bool false)]) (by kernel_rfl) ?_
            refine QP.pick [4] ?_
            exact QP.meet ⟨_, Option.some.inj h, rfl, rfl, rfl⟩
        · replace hc := ne_of_beq_false hc
          rw [if_neg hc] at h
          have hc15 := hc
          clear hc
          refine WL.rest 6 [4] (L' := [(4, .bool false)]) (by kernel_rfl) ?_
          refine QP.pick [4] ?_
          exact QP.meet ⟨_, Option.some.inj h, rfl, rfl, rfl⟩
      · rintro _ _ _ ⟨s9, rfl, rfl, rfl, rfl⟩
        clear h
        replace h := hk10
        refine WP.ret ?_
        obtain rfl := Option.some.inj h
        exact QP.returned [4] [.bool s9] _ (by kernel_rfl) (by kernel_rfl) (by kernel_rfl) (fun W hI => ⟨_, _, _, rfl, ⟨rfl, rfl, rfl⟩, hI⟩)
/-- The plain law. -/
def DigestTells_Pure : Prop := ∀ (l0 : List (List Int)) (l1 : List Int), (l0.length ≤ maxLen ∧ ∀ z0 ∈ l0, (z0.length ≤ maxLen ∧ ∀ zz0 ∈ z0, (Lit.int .u8 zz0).wf = true)) → (l1.length ≤ maxLen ∧ ∀ z0 ∈ l1, (Lit.int .u64 z0).wf = true) → ∃ k, grapevinelaw5_DigestTells k l0 l1 = some true
end Go.Proofs.Ytanogihdhnhpaaa.Gf
