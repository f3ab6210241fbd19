/- Walks of Go functions: what each tells, as a plain Lean function, and that the Go code comes to it. Written by gg.py of this repo. -/
import Derived.Test.YtfocilpnbiciaaaDoorT
import Derived.Test.YtfocilpnbiciaaaDoorF5
import Derived.Test.YtfocilpnbiciaaaDoorF6
import Derived.Test.YtfocilpnbiciaaaDoorF8
import Derived.Test.YtfocilpnbiciaaaDoorF10
namespace Go.Proofs.YtfocilpnbiciaaaDoor.Gf
open Go Go.Gg
set_option maxRecDepth 100000
set_option linter.unusedVariables false
set_option linter.unusedSimpArgs false

/-! ### grapevine/grapevinelaw8.SegmentReads: function 3 -/
def grapevinelaw8_SegmentReads (k : Nat) (l0 : List Int) (a1 : Int) : Option Bool := (if (l0.length : Int) > 2000 then ((grapevinelaw8_awake k ).bind fun t2 => some t2) else (if l0.length + 3 ≤ 1073741824 then ((segment_Read k l0 a1).bind fun t15 => ((grapevineref8_Read k l0 a1).bind fun t19 => (((grapevinelaw0_SameEntries k t15.1 t19.1).bind fun t25 => (if t25 = true then (if t15.2 = t19.2 then ((grapevinelaw0_KeptBytes k l0 l0).bind fun t33 => some t33) else some false) else some false)).bind fun s23 => ((grapevinelaw0_OverEntries k t15.1).bind fun t37 => ((if s23 = true then ((grapevinelaw0_KeptBytes k l0 l0).bind fun t44 => (if t44 = true then ((grapevinelaw8_awake k ).bind fun t49 => some t49) else some false)) else some false).bind fun s41 => some s41))))) else none))
set_option maxHeartbeats 4000000 in
theorem grapevinelaw8_SegmentReads_calls {B : World} {G : GMap} {Γ : List Chunk} {W : World} (HT : Tabs B G) (k : Nat) (l0 : List Int) (a1 : Int) (Al0 : Option Addr) (cl0 : Nat) (Hl0 : Rd (kInt .u8) G Al0 cl0 l0) (r : Bool) (h : grapevinelaw8_SegmentReads k l0 a1 = some r) (hI : Inv B G (Γ) W) :
    Calls Tryd.prog 3 [.slice Al0 l0.length cl0, .int .i64 a1].toArray W (Ret B (fun v G' Γ' => v = .bool r ∧ G = G' ∧ Γ = Γ')) := by
  refine calls_WP (Γ := Γ) (G := G) (B := B) Tryd.func3 rfl (by kernel_rfl) ?_ hI
  clear hI
  unfold grapevinelaw8_SegmentReads at h
  refine WP.seqP [0, 1] (L' := [(0, .slice Al0 l0.length cl0), (1, .int .i64 a1)]) (by kernel_rfl) ?_
  refine WP.seq ?_
  refine WP.seqP [0, 1, 13] (L' := [(0, .slice Al0 l0.length cl0), (1, .int .i64 a1), (13, .bool (decide ((l0.length : Int) > 2000)))]) (by kernel_rfl) ?_
  refine WP.cond (b := decide ((l0.length : Int) > 2000)) (by kernel_rfl) (fun hc => ?_) (fun hc => ?_)
  · replace hc := of_decide_eq_true hc
    rw [if_pos hc] at h
    have hc1 := hc
    clear hc
    refine WP.seqR ?_
    rw [Option.bind_eq_some_iff] at h
    obtain ⟨t2, ht3, h⟩ := h
    refine WL.op (op := .call { callee := (.value (.func 10)), args := #[], argTypes := #[] }) (ty := 4) (d := some 14) (g := none) (by kernel_rfl) (by kernel_rfl) (by kernel_rfl) (Does.call (f := 10) (args := []) (by kernel_rfl) (fun W hI => (grapevinelaw8_awake_calls HT k   t2 ht3 hI))) ?_
    rintro _ _ _ ⟨rfl, rfl, rfl⟩
    refine WL.restQ 1 [4] (L' := [(4, .bool t2)]) (by kernel_rfl) ?_
    refine WP.ret ?_
    refine QP.thenR ?_
    obtain rfl := Option.some.inj h
    exact QP.returned [4] [.bool t2] _ (by kernel_rfl) (by kernel_rfl) (by kernel_rfl) (fun W hI => ⟨_, _, _, rfl, ⟨rfl, rfl, rfl⟩, hI⟩)
  · replace hc := of_decide_eq_false hc
    rw [if_neg hc] at h
    have hc1 := hc
    clear hc
    refine WP.skip ?_
    refine QP.next ?_
    refine WP.pick [0, 1] ?_
    refine WP.seqR ?_
    refine WL.pure 0 1 [0, 1, 15] (L' := [(0, .slice Al0 l0.length cl0), (1, .int .i64 a1), (15, .slice Al0 l0.length cl0)]) (by kernel_rfl) (by decide) ?_
    by_cases hb6 : l0.length + 3 ≤ 1073741824
    case neg => rw [if_neg hb6] at h; cases h
    rw [if_pos hb6] at h
    refine WL.op (op := .call { callee := (.value (.func 11)), args := #[(.tmp 15)], argTypes := #[22] }) (ty := 22) (d := some 16) (g := none) (by kernel_rfl) (by kernel_rfl) (by kernel_rfl) (Does.call (f := 11) (args := [.slice Al0 l0.length cl0]) (by kernel_rfl) (fun W hI => (grapevinelaw0_LendBytes_calls l0 Al0 cl0 Hl0 hb6 hI))) ?_
    rintro _ _ _ ⟨AR7, cR7, CR7, rfl, HR7, rfl, rfl⟩
    refine WL.freezeN (i := 0) rfl (fun G8 hG9 hle10 nd11 => ?_)
    have Hz12 := HR7.rdN (by rw [← hG9]; exact hle10) nd11
    rw [← hG9] at Hz12
    have Hm13 := Hl0.mono hle10
    have Hd14 := Hz12.head
    refine WL.restQ 2 [0, 1, 5] (L' := [(0, .slice Al0 l0.length cl0), (1, .int .i64 a1), (5, .slice AR7 l0.length cR7)]) (by kernel_rfl) ?_
    refine WP.dropAt 0 ?_
    refine WP.seqR ?_
    refine WL.pure 0 2 [0, 1, 5, 18, 19] (L' := [(0, .slice Al0 l0.length cl0), (1, .int .i64 a1), (5, .slice AR7 l0.length cR7), (18, .slice AR7 l0.length cR7), (19, .int .i64 a1)]) (by kernel_rfl) (by decide) ?_
    rw [Option.bind_eq_some_iff] at h
    obtain ⟨t15, ht16, h⟩ := h
    refine WL.op (op := .call { callee := (.value (.func 12)), args := #[(.tmp 18), (.tmp 19)], argTypes := #[22, 3] }) (ty := 26) (d := some 20) (g := none) (by kernel_rfl) (by kernel_rfl) (by kernel_rfl) (Does.call (f := 12) (args := [.slice AR7 l0.length cR7, .int .i64 a1]) (by kernel_rfl) (fun W hI => (segment_Read_calls (HT.mono hle10) k l0 a1 AR7 cR7 Hd14 t15 ht16 hI))) ?_
    rintro _ _ _ ⟨AR170, cR170, CR170, rfl, HR170, rfl, rfl⟩
    refine WL.restQ 3 [0, 1, 5, 6, 7] (L' := [(0, .slice Al0 l0.length cl0), (1, .int .i64 a1), (5, .slice AR7 l0.length cR7), (6, .slice AR170 t15.1.length cR170), (7, .int .i64 t15.2)]) (by kernel_rfl) ?_
    refine WP.seqR ?_
    refine WL.pure 0 2 [0, 5, 6, 7, 24, 25] (L' := [(0, .slice Al0 l0.length cl0), (5, .slice AR7 l0.length cR7), (6, .slice AR170 t15.1.length cR170), (7, .int .i64 t15.2), (24, .slice Al0 l0.length cl0), (25, .int .i64 a1)]) (by kernel_rfl) (by decide) ?_
    rw [Option.bind_eq_some_iff] at h
    obtain ⟨t19, ht20, h⟩ := h
    refine WL.op (op := .call { callee := (.value (.func 13)), args := #[(.tmp 24), (.tmp 25)], argTypes := #[22, 3] }) (ty := 26) (d := some 26) (g := none) (by kernel_rfl) (by kernel_rfl) (by kernel_rfl) (Does.call (f := 13) (args := [.slice Al0 l0.length cl0, .int .i64 a1]) (by kernel_rfl) (fun W hI => (grapevineref8_Read_calls (HT.mono hle10) k l0 a1 Al0 cl0 Hm13 t19 ht20 hI))) ?_
    rintro _ _ _ ⟨AR210, cR210, CR210, rfl, HR210, rfl, rfl⟩
    refine WL.restQ 3 [0, 5, 6, 7, 8, 9] (L' := [(0, .slice Al0 l0.length cl0), (5, .slice AR7 l0.length cR7), (6, .slice AR170 t15.1.length cR170), (7, .int .i64 t15.2), (8, .slice AR210 t19.1.length cR210), (9, .int .i64 t19.2)]) (by kernel_rfl) ?_
    rw [Option.bind_eq_some_iff] at h
    obtain ⟨os23, h, hk24⟩ := h
    refine WP.cut (fun L' G' Γ' => ∃ s23 : Bool, s23 = os23 ∧ L' = [(0, .slice Al0 l0.length cl0), (5, .slice AR7 l0.length cR7), (6, .slice AR170 t15.1.length cR170), (10, .bool s23)] ∧ G8 = G' ∧ CR170 :: Γ = Γ') ?_ ?_
    · clear hk24
      refine WP.region ?_
      refine WL.pure 0 2 [0, 5, 6, 7, 9, 29, 30] (L' := [(0, .slice Al0 l0.length cl0), (5, .slice AR7 l0.length cR7), (6, .slice AR170 t15.1.length cR170), (7, .int .i64 t15.2), (9, .int .i64 t19.2), (29, .slice AR170 t15.1.length cR170), (30, .slice AR210 t19.1.length cR210)]) (by kernel_rfl) (by decide) ?_
      rw [Option.bind_eq_some_iff] at h
      obtain ⟨t25, ht26, h⟩ := h
      refine WL.op (op := .call { callee := (.value (.func 14)), args := #[(.tmp 29), (.tmp 30)], argTypes := #[25, 25] }) (ty := 4) (d := some 31) (g := none) (by kernel_rfl) (by kernel_rfl) (by kernel_rfl) (Does.call (Φ := fun v' G' Γ' => v' = .bool t25 ∧ G8 = G' ∧ CR210 :: CR170 :: Γ = Γ') (f := 14) (args := [.slice AR170 t15.1.length cR170, .slice AR210 t19.1.length cR210]) (by kernel_rfl) (fun W hI => (Calls.lendN (Φ := fun v' N => v' = .bool t25 ∧ N = []) (H := []) (i := 1) rfl hI (fun _ e l29 nl29 hI => by subst e; exact Calls.lendN (Φ := fun v' N => v' = .bool t25 ∧ N = []) (H := []) (i := 0) rfl hI (fun _ e l30 nl30 hI => by subst e; exact (((grapevinelaw0_SameEntries_calls k t15.1 t19.1 AR170 cR170 ((HR170.rdN l29 nl29).mono l30) AR210 cR210 ((HR210.mono l29).rdN l30 nl30) t25 ht26 hI)).mono fun _ _ hr => by obtain ⟨_, _, _, rfl, hd, hI⟩ := hr; obtain ⟨rfl, rfl, rfl⟩ := hd; exact ⟨_, _, _, rfl, ⟨[], ⟨rfl, rfl⟩, rfl, rfl⟩, hI⟩)))).mono fun _ _ hr => by obtain ⟨_, _, _, rfl, ⟨_, hd, rfl, rfl⟩, hI⟩ := hr; obtain ⟨rfl, rfl⟩ := hd; exact ⟨_, _, _, rfl, ⟨rfl, rfl, rfl⟩, hI⟩)) ?_
      rintro _ _ _ ⟨rfl, rfl, rfl⟩
      refine WL.pure 3 4 [0, 5, 6, 7, 9, 32] (L' := [(0, .slice Al0 l0.length cl0), (5, .slice AR7 l0.length cR7), (6, .slice AR170 t15.1.length cR170), (7, .int .i64 t15.2), (9, .int .i64 t19.2), (32, .bool t25)]) (by kernel_rfl) (by decide) ?_
      refine WL.split 32 (b := t25) (by kernel_rfl) (fun hc => ?_) (fun hc => ?_)
      · replace hc := hc
        rw [if_pos hc] at h
        have hc31 := hc
        clear hc
        refine WL.pure 4 9 [0, 5, 6, 37] (L' := [(0, .slice Al0 l0.length cl0), (5, .slice AR7 l0.length cR7), (6, .slice AR170 t15.1.length cR170), (37, .bool (t15.2 == t19.2))]) (by kernel_rfl) (by decide) ?_
        refine WL.split 37 (b := (t15.2 == t19.2)) (by kernel_rfl) (fun hc => ?_) (fun hc => ?_)
        · replace hc := eq_of_beq hc
          rw [if_pos hc] at h
          have hc32 := hc
          clear hc
          refine WL.pure 9 11 [0, 5, 6, 37, 38, 39] (L' := [(0, .slice Al0 l0.length cl0), (5, .slice AR7 l0.length cR7), (6, .slice AR170 t15.1.length cR170), (37, .bool true), (38, .slice AR7 l0.length cR7), (39, .slice Al0 l0.length cl0)]) (by kernel_rfl) (by decide) ?_
          rw [Option.bind_eq_some_iff] at h
          obtain ⟨t33, ht34, h⟩ := h
          refine WL.op (op := .call { callee := (.value (.func 15)), args := #[(.tmp 38), (.tmp 39)], argTypes := #[22, 22] }) (ty := 4) (d := some 40) (g := some (8, true)) (by kernel_rfl) (by kernel_rfl) (by kernel_rfl) (Does.call (f := 15) (args := [.slice AR7 l0.length cR7, .slice Al0 l0.length cl0]) (by kernel_rfl) (fun W hI => (grapevinelaw0_KeptBytes_calls k l0 l0 AR7 cR7 Hd14 Hz12 Al0 cl0 Hm13 t33 ht34 hI))) ?_
          rintro _ _ _ ⟨rfl, rfl, rfl⟩
          refine WL.rest 12 [0, 5, 6, 10] (L' := [(0, .slice Al0 l0.length cl0), (5, .slice AR7 l0.length cR7), (6, .slice AR170 t15.1.length cR170), (10, .bool t33)]) (by kernel_rfl) ?_
          refine QP.dropAt 0 ?_
          refine QP.pick [0, 5, 6, 10] ?_
          exact QP.meet ⟨_, Option.some.inj h, rfl, rfl, rfl⟩
        · replace hc := ne_of_beq_false hc
          rw [if_neg hc] at h
          have hc32 := hc
          clear hc
          refine WL.rest 9 [0, 5, 6, 10] (L' := [(0, .slice Al0 l0.length cl0), (5, .slice AR7 l0.length cR7), (6, .slice AR170 t15.1.length cR170), (10, .bool false)]) (by kernel_rfl) ?_
          refine QP.dropAt 0 ?_
          refine QP.pick [0, 5, 6, 10] ?_
          exact QP.meet ⟨_, Option.some.inj h, rfl, rfl, rfl⟩
      · replace hc := (Bool.eq_false_iff.1 hc)
        rw [if_neg hc] at h
        have hc31 := hc
        clear hc
        refine WL.rest 4 [0, 5, 6, 10] (L' := [(0, .slice Al0 l0.length cl0), (5, .slice AR7 l0.length cR7), (6, .slice AR170 t15.1.length cR170), (10, .bool false)]) (by kernel_rfl) ?_
        refine QP.dropAt 0 ?_
        refine QP.pick [0, 5, 6, 10] ?_
        exact QP.meet ⟨_, Option.some.inj h, rfl, rfl, rfl⟩
    · rintro _ _ _ ⟨s23, rfl, rfl, rfl, rfl⟩
      clear h
      replace h := hk24
      refine WP.seqR ?_
      refine WL.pure 0 1 [0, 5, 10, 42] (L' := [(0, .slice Al0 l0.length cl0), (5, .slice AR7 l0.length cR7), (10, .bool s23), (42, .slice AR170 t15.1.length cR170)]) (by kernel_rfl) (by decide) ?_
      rw [Option.bind_eq_some_iff] at h
      obtain ⟨t37, ht38, h⟩ := h
      refine WL.op (op := .call { callee := (.value (.func 16)), args := #[(.tmp 42)], argTypes := #[25] }) (ty := 0) (d := some 43) (g := none) (by kernel_rfl) (by kernel_rfl) (by kernel_rfl) (Does.call (f := 16) (args := [.slice AR170 t15.1.length cR170]) (by kernel_rfl) (fun W hI => (grapevinelaw0_OverEntries_calls k t15.1 AR170 cR170 CR170 HR170 t37 ht38 hI))) ?_
      rintro _ _ _ ⟨rfl, rfl, rfl⟩
      refine WL.restQ 2 [0, 5, 10] (L' := [(0, .slice Al0 l0.length cl0), (5, .slice AR7 l0.length cR7), (10, .bool s23)]) (by kernel_rfl) ?_
      rw [Option.bind_eq_some_iff] at h
      obtain ⟨os41, h, hk42⟩ := h
      refine WP.cut (fun L' G' Γ' => ∃ s41 : Bool, s41 = os41 ∧ L' = [(4, .bool s41)] ∧ G8 = G' ∧ Γ = Γ') ?_ ?_
      · clear hk42
        refine WP.region ?_
        refine WL.pure 0 2 [0, 5, 45] (L' := [(0, .slice Al0 l0.length cl0), (5, .slice AR7 l0.length cR7), (45, .bool s23)]) (by kernel_rfl) (by decide) ?_
        refine WL.split 45 (b := s23) (by kernel_rfl) (fun hc => ?_) (fun hc => ?_)
        · replace hc := hc
          rw [if_pos hc] at h
          have hc43 := hc
          clear hc
          refine WL.pure 2 4 [45, 46, 47] (L' := [(45, .bool true), (46, .slice AR7 l0.length cR7), (47, .slice Al0 l0.length cl0)]) (by kernel_rfl) (by decide) ?_
          rw [Option.bind_eq_some_iff] at h
          obtain ⟨t44, ht45, h⟩ := h
          refine WL.op (op := .call { callee := (.value (.func 15)), args := #[(.tmp 46), (.tmp 47)], argTypes := #[22, 22] }) (ty := 4) (d := some 48) (g := some (1, true)) (by kernel_rfl) (by kernel_rfl) (by kernel_rfl) (Does.call (f := 15) (args := [.slice AR7 l0.length cR7, .slice Al0 l0.length cl0]) (by kernel_rfl) (fun W hI => (grapevinelaw0_KeptBytes_calls k l0 l0 AR7 cR7 Hd14 Hz12 Al0 cl0 Hm13 t44 ht45 hI))) ?_
          rintro _ _ _ ⟨rfl, rfl, rfl⟩
          refine WL.pure 5 7 [50] (L' := [(50, .bool t44)]) (by kernel_rfl) (by decide) ?_
          refine WL.split 50 (b := t44) (by kernel_rfl) (fun hc => ?_) (fun hc => ?_)
          · replace hc := hc
            rw [if_pos hc] at h
            have hc48 := hc
            clear hc
            rw [Option.bind_eq_some_iff] at h
            obtain ⟨t49, ht50, h⟩ := h
            refine WL.op (op := .call { callee := (.value (.func 10)), args := #[], argTypes := #[] }) (ty := 4) (d := some 51) (g := some (6, true)) (by kernel_rfl) (by kernel_rfl) (by kernel_rfl) (Does.call (f := 10) (args := []) (by kernel_rfl) (fun W hI => (grapevinelaw8_awake_calls (HT.mono hle10) k   t49 ht50 hI))) ?_
            rintro _ _ _ ⟨rfl, rfl, rfl⟩
            refine WL.rest 8 [4] (L' := [(4, .bool t49)]) (by kernel_rfl) ?_
            refine QP.pick [4] ?_
            exact QP.meet ⟨_, Option.some.inj h, rfl, rfl, rfl⟩
          · replace hc := (Bool.eq_false_iff.1 hc)
            rw [if_neg hc] at h
            have hc48 := hc
            clear hc
            refine WL.rest 7 [4] (L' := [(4, .bool false)]) (by kernel_rfl) ?_
            refine QP.pick [4] ?_
            exact QP.meet ⟨_, Option.some.inj h, rfl, rfl, rfl⟩
        · replace hc := (Bool.eq_false_iff.1 hc)
          rw [if_neg hc] at h
          have hc43 := hc
          clear hc
          refine WL.rest 2 [4] (L' := [(4, .bool false)]) (by kernel_rfl) ?_
          refine QP.pick [4] ?_
          exact QP.meet ⟨_, Option.some.inj h, rfl, rfl, rfl⟩
      · rintro _ _ _ ⟨s41, rfl, rfl, rfl, rfl⟩
        clear h
        replace h := hk42
        refine WP.ret ?_
        obtain rfl := Option.some.inj h
        refine QP.lower hle10 ?_
        exact QP.returned [4] [.bool s41] _ (by kernel_rfl) (by kernel_rfl) (by kernel_rfl) (fun W hI => ⟨_, _, _, rfl, ⟨rfl, rfl, rfl⟩, hI⟩)
/-- The plain law. -/
def SegmentReads_Pure : Prop := ∀ (l0 : List Int) (a1 : Int), (l0.length ≤ maxLen ∧ ∀ z0 ∈ l0, (Lit.int .u8 z0).wf = true) → (Lit.int .i64 a1).wf = true → ∃ k, grapevinelaw8_SegmentReads k l0 a1 = some true
end Go.Proofs.YtfocilpnbiciaaaDoor.Gf
