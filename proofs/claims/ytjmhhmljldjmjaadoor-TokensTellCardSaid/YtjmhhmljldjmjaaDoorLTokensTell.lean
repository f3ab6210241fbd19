/- Walks of Go functions: what each tells, as a plain Lean function, and that the Go code comes to it. Written by gg.py of this repo. -/
import Derived.Test.YtjmhhmljldjmjaaDoorT
import Derived.Test.YtjmhhmljldjmjaaDoorF0
import Derived.Test.YtjmhhmljldjmjaaDoorF1
namespace Go.Proofs.YtjmhhmljldjmjaaDoor.Gf
open Go Go.Gg
set_option maxRecDepth 100000
set_option linter.unusedVariables false
set_option linter.unusedSimpArgs false

/-! ### grapevine/grapevinelaw1.TokensTell: function 10 -/
def grapevinelaw1_TokensTell (k : Nat) (a0 : ByteArray) : Option Bool := (if (a0.size : Int) > 300 then ((grapevinelaw1_awake k ).bind fun t2 => some t2) else ((tokens_Of k a0).bind fun t6 => (((grapevineref1_Of k a0).bind fun t12 => ((grapevinelaw0_SameWords k t6 t12).bind fun t16 => (if t16 = true then ((tokens_May a0).bind fun t23 => ((grapevineref1_May a0).bind fun t27 => (if (t23 == t27) = true then ((tokens_Norm a0).bind fun t32 => ((grapevineref1_Norm k a0).bind fun t36 => (if (t32.toList == t36.toList) = true then ((tokens_One a0).bind fun t41 => ((grapevineref1_One k a0).bind fun t45 => some (t41 == t45))) else some false))) else some false))) else some false))).bind fun s10 => ((grapevinelaw0_OverWords k t6).bind fun t49 => ((if s10 = true then ((tokens_Of k a0).bind fun t56 => ((grapevineref1_Of k a0).bind fun t60 => ((grapevinelaw0_SameWords k t56 t60).bind fun t64 => (if t64 = true then ((grapevinelaw1_awake k ).bind fun t71 => some t71) else some false)))) else some false).bind fun s53 => some s53)))))
set_option maxHeartbeats 4000000 in
theorem grapevinelaw1_TokensTell_calls {B : World} {G : GMap} {Γ : List Chunk} {W : World} (HT : Tabs B G) (k : Nat) (a0 : ByteArray) (r : Bool) (h : grapevinelaw1_TokensTell k a0 = some r) (hI : Inv B G (Γ) W) :
    Calls Tryd.prog 10 [.string a0].toArray W (Ret B (fun v G' Γ' => v = .bool r ∧ G = G' ∧ Γ = Γ')) := by
  refine calls_WP (Γ := Γ) (G := G) (B := B) Tryd.func10 rfl (by kernel_rfl) ?_ hI
  clear hI
  unfold grapevinelaw1_TokensTell at h
  refine WP.seqP [0] (L' := [(0, .string a0)]) (by kernel_rfl) ?_
  refine WP.seq ?_
  refine WP.seqP [0, 7] (L' := [(0, .string a0), (7, .bool (decide ((a0.size : Int) > 300)))]) (by kernel_rfl) ?_
  refine WP.cond (b := decide ((a0.size : Int) > 300)) (by kernel_rfl) (fun hc => ?_) (fun hc => ?_)
  · replace hc := of_decide_eq_true hc
    rw [if_pos hc] at h
    have hc1 := hc
    clear hc
    refine WP.seqR ?_
    rw [Option.bind_eq_some_iff] at h
    obtain ⟨t2, ht3, h⟩ := h
    refine WL.op (op := .call { callee := (.value (.func 39)), args := #[], argTypes := #[] }) (ty := 4) (d := some 8) (g := none) (by kernel_rfl) (by kernel_rfl) (by kernel_rfl) (Does.call (f := 39) (args := []) (by kernel_rfl) (fun W hI => (grapevinelaw1_awake_calls HT k   t2 ht3 hI))) ?_
    rintro _ _ _ ⟨rfl, rfl, rfl⟩
    refine WL.restQ 1 [2] (L' := [(2, .bool t2)]) (by kernel_rfl) ?_
    refine WP.ret ?_
    refine QP.thenR ?_
    obtain rfl := Option.some.inj h
    exact QP.returned [2] [.bool t2] _ (by kernel_rfl) (by kernel_rfl) (by kernel_rfl) (fun W hI => ⟨_, _, _, rfl, ⟨rfl, rfl, rfl⟩, hI⟩)
  · replace hc := of_decide_eq_false hc
    rw [if_neg hc] at h
    have hc1 := hc
    clear hc
    refine WP.skip ?_
    refine QP.next ?_
    refine WP.pick [0] ?_
    refine WP.seqR ?_
    refine WL.pure 0 1 [0, 9] (L' := [(0, .string a0), (9, .string a0)]) (by kernel_rfl) (by decide) ?_
    rw [Option.bind_eq_some_iff] at h
    obtain ⟨t6, ht7, h⟩ := h
    refine WL.op (op := .call { callee := (.value (.func 40)), args := #[(.tmp 9)], argTypes := #[9] }) (ty := 56) (d := some 10) (g := none) (by kernel_rfl) (by kernel_rfl) (by kernel_rfl) (Does.call (f := 40) (args := [.string a0]) (by kernel_rfl) (fun W hI => (tokens_Of_calls HT k a0  t6 ht7 hI))) ?_
    rintro _ _ _ ⟨AR8, cR8, CR8, rfl, HR8, rfl, rfl⟩
    refine WL.restQ 2 [0, 3] (L' := [(0, .string a0), (3, .slice AR8 t6.length cR8)]) (by kernel_rfl) ?_
    rw [Option.bind_eq_some_iff] at h
    obtain ⟨os10, h, hk11⟩ := h
    refine WP.cut (fun L' G' Γ' => ∃ s10 : Bool, s10 = os10 ∧ L' = [(0, .string a0), (3, .slice AR8 t6.length cR8), (4, .bool s10)] ∧ G = G' ∧ CR8 :: Γ = Γ') ?_ ?_
    · clear hk11
      refine WP.region ?_
      refine WL.pure 0 2 [0, 3, 11, 12] (L' := [(0, .string a0), (3, .slice AR8 t6.length cR8), (11, .slice AR8 t6.length cR8), (12, .string a0)]) (by kernel_rfl) (by decide) ?_
      rw [Option.bind_eq_some_iff] at h
      obtain ⟨t12, ht13, h⟩ := h
      refine WL.op (op := .call { callee := (.value (.func 42)), args := #[(.tmp 12)], argTypes := #[9] }) (ty := 56) (d := some 13) (g := none) (by kernel_rfl) (by kernel_rfl) (by kernel_rfl) (Does.call (f := 42) (args := [.string a0]) (by kernel_rfl) (fun W hI => (grapevineref1_Of_calls HT k a0  t12 ht13 hI))) ?_
      rintro _ _ _ ⟨AR14, cR14, CR14, rfl, HR14, rfl, rfl⟩
      rw [Option.bind_eq_some_iff] at h
      obtain ⟨t16, ht17, h⟩ := h
      refine WL.op (op := .call { callee := (.value (.func 41)), args := #[(.tmp 11), (.tmp 13)], argTypes := #[56, 56] }) (ty := 4) (d := some 14) (g := none) (by kernel_rfl) (by kernel_rfl) (by kernel_rfl) (Does.call (Φ := fun v' G' Γ' => v' = .bool t16 ∧ G = G' ∧ CR14 :: CR8 :: Γ = Γ') (f := 41) (args := [.slice AR8 t6.length cR8, .slice AR14 t12.length cR14]) (by kernel_rfl) (fun W hI => (Calls.lendN (Φ := fun v' N => v' = .bool t16 ∧ N = []) (H := []) (i := 1) rfl hI (fun _ e l20 nl20 hI => by subst e; exact Calls.lendN (Φ := fun v' N => v' = .bool t16 ∧ N = []) (H := []) (i := 0) rfl hI (fun _ e l21 nl21 hI => by subst e; exact (((grapevinelaw0_SameWords_calls k t6 t12 AR8 cR8 ((HR8.rdN l20 nl20).mono l21) AR14 cR14 ((HR14.mono l20).rdN l21 nl21) t16 ht17 hI)).mono fun _ _ hr => by obtain ⟨_, _, _, rfl, hd, hI⟩ := hr; obtain ⟨rfl, rfl, rfl⟩ := hd; exact ⟨_, _, _, rfl, ⟨[], ⟨rfl, rfl⟩, rfl, rfl⟩, hI⟩)))).mono fun _ _ hr => by obtain ⟨_, _, _, rfl, ⟨_, hd, rfl, rfl⟩, hI⟩ := hr; obtain ⟨rfl, rfl⟩ := hd; exact ⟨_, _, _, rfl, ⟨rfl, rfl, rfl⟩, hI⟩)) ?_
      rintro _ _ _ ⟨rfl, rfl, rfl⟩
      refine WL.pure 4 5 [0, 3, 15] (L' := [(0, .string a0), (3, .slice AR8 t6.length cR8), (15, .bool t16)]) (by kernel_rfl) (by decide) ?_
      refine WL.split 15 (b := t16) (by kernel_rfl) (fun hc => ?_) (fun hc => ?_)
      · replace hc := hc
        rw [if_pos hc] at h
        have hc22 := hc
        clear hc
        refine WL.pure 5 6 [0, 3, 15, 16] (L' := [(0, .string a0), (3, .slice AR8 t6.length cR8), (15, .bool true), (16, .string a0)]) (by kernel_rfl) (by decide) ?_
        rw [Option.bind_eq_some_iff] at h
        obtain ⟨t23, ht24, h⟩ := h
        refine WL.op (op := .call { callee := (.value (.func 43)), args := #[(.tmp 16)], argTypes := #[9] }) (ty := 4) (d := some 17) (g := some (4, true)) (by kernel_rfl) (by kernel_rfl) (by kernel_rfl) (Does.call (f := 43) (args := [.string a0]) (by kernel_rfl) (fun W hI => (tokens_May_calls HT a0  t23 ht24 hI))) ?_
        rintro _ _ _ ⟨rfl, rfl, rfl⟩
        refine WL.pure 7 8 [0, 3, 15, 17, 18] (L' := [(0, .string a0), (3, .slice AR8 t6.length cR8), (15, .bool true), (17, .bool t23), (18, .string a0)]) (by kernel_rfl) (by decide) ?_
        rw [Option.bind_eq_some_iff] at h
        obtain ⟨t27, ht28, h⟩ := h
        refine WL.op (op := .call { callee := (.value (.func 44)), args := #[(.tmp 18)], argTypes := #[9] }) (ty := 4) (d := some 19) (g := some (4, true)) (by kernel_rfl) (by kernel_rfl) (by kernel_rfl) (Does.call (f := 44) (args := [.string a0]) (by kernel_rfl) (fun W hI => (grapevineref1_May_calls HT a0  t27 ht28 hI))) ?_
        rintro _ _ _ ⟨rfl, rfl, rfl⟩
        refine WL.pure 9 12 [0, 3, 22] (L' := [(0, .string a0), (3, .slice AR8 t6.length cR8), (22, .bool (t23 == t27))]) (by kernel_rfl) (by decide) ?_
        refine WL.split 22 (b := (t23 == t27)) (by kernel_rfl) (fun hc => ?_) (fun hc => ?_)
        · replace hc := hc
          rw [if_pos hc] at h
          have hc31 := hc
          clear hc
          refine WL.pure 12 13 [0, 3, 22, 23] (L' := [(0, .string a0), (3, .slice AR8 t6.length cR8), (22, .bool true), (23, .string a0)]) (by kernel_rfl) (by decide) ?_
          rw [Option.bind_eq_some_iff] at h
          obtain ⟨t32, ht33, h⟩ := h
          refine WL.op (op := .call { callee := (.value (.func 45)), args := #[(.tmp 23)], argTypes := #[9] }) (ty := 9) (d := some 24) (g := some (11, true)) (by kernel_rfl) (by kernel_rfl) (by kernel_rfl) (Does.call (f := 45) (args := [.string a0]) (by kernel_rfl) (fun W hI => (tokens_Norm_calls HT a0  t32 ht33 hI))) ?_
          rintro _ _ _ ⟨rfl, rfl, rfl⟩
          refine WL.pure 14 15 [0, 3, 22, 24, 25] (L' := [(0, .string a0), (3, .slice AR8 t6.length cR8), (22, .bool true), (24, .string t32), (25, .string a0)]) (by kernel_rfl) (by decide) ?_
          rw [Option.bind_eq_some_iff] at h
          obtain ⟨t36, ht37, h⟩ := h
          refine WL.op (op := .call { callee := (.value (.func 46)), args := #[(.tmp 25)], argTypes := #[9] }) (ty := 9) (d := some 26) (g := some (11, true)) (by kernel_rfl) (by kernel_rfl) (by kernel_rfl) (Does.call (f := 46) (args := [.string a0]) (by kernel_rfl) (fun W hI => (grapevineref1_Norm_calls HT k a0  t36 ht37 hI))) ?_
          rintro _ _ _ ⟨rfl, rfl, rfl⟩
          refine WL.pure 16 19 [0, 3, 29] (L' := [(0, .string a0), (3, .slice AR8 t6.length cR8), (29, .bool (t32.toList == t36.toList))]) (by kernel_rfl) (by decide) ?_
          refine WL.split 29 (b := (t32.toList == t36.toList)) (by kernel_rfl) (fun hc => ?_) (fun hc => ?_)
          · replace hc := hc
            rw [if_pos hc] at h
            have hc40 := hc
            clear hc
            refine WL.pure 19 20 [0, 3, 29, 30] (L' := [(0, .string a0), (3, .slice AR8 t6.length cR8), (29, .bool true), (30, .string a0)]) (by kernel_rfl) (by decide) ?_
            rw [Option.bind_eq_some_iff] at h
            obtain ⟨t41, ht42, h⟩ := h
            refine WL.op (op := .call { callee := (.value (.func 47)), args := #[(.tmp 30)], argTypes := #[9] }) (ty := 4) (d := some 31) (g := some (18, true)) (by kernel_rfl) (by kernel_rfl) (by kernel_rfl) (Does.call (f := 47) (args := [.string a0]) (by kernel_rfl) (fun W hI => (tokens_One_calls HT a0  t41 ht42 hI))) ?_
            rintro _ _ _ ⟨rfl, rfl, rfl⟩
            refine WL.pure 21 22 [0, 3, 29, 31, 32] (L' := [(0, .string a0), (3, .slice AR8 t6.length cR8), (29, .bool true), (31, .bool t41), (32, .string a0)]) (by kernel_rfl) (by decide) ?_
            rw [Option.bind_eq_some_iff] at h
            obtain ⟨t45, ht46, h⟩ := h
            refine WL.op (op := .call { callee := (.value (.func 48)), args := #[(.tmp 32)], argTypes := #[9] }) (ty := 4) (d := some 33) (g := some (18, true)) (by kernel_rfl) (by kernel_rfl) (by kernel_rfl) (Does.call (f := 48) (args := [.string a0]) (by kernel_rfl) (fun W hI => (grapevineref1_One_calls HT k a0  t45 ht46 hI))) ?_
            rintro _ _ _ ⟨rfl, rfl, rfl⟩
            refine WL.rest 23 [0, 3, 4] (L' := [(0, .string a0), (3, .slice AR8 t6.length cR8), (4, .bool (t41 == t45))]) (by kernel_rfl) ?_
            refine QP.dropAt 0 ?_
            refine QP.pick [0, 3, 4] ?_
            exact QP.meet ⟨_, Option.some.inj h, rfl, rfl, rfl⟩
          · replace hc := (Bool.eq_false_iff.1 hc)
            rw [if_neg hc] at h
            have hc40 := hc
            clear hc
            refine WL.rest 19 [0, 3, 4] (L' := [(0, .string a0), (3, .slice AR8 t6.length cR8), (4, .bool false)]) (by kernel_rfl) ?_
            refine QP.dropAt 0 ?_
            refine QP.pick [0, 3, 4] ?_
            exact QP.meet ⟨_, Option.some.inj h, rfl, rfl, rfl⟩
        · replace hc := (Bool.eq_false_iff.1 hc)
          rw [if_neg hc] at h
          have hc31 := hc
          clear hc
          refine WL.rest 12 [0, 3, 4] (L' := [(0, .string a0), (3, .slice AR8 t6.length cR8), (4, .bool false)]) (by kernel_rfl) ?_
          refine QP.dropAt 0 ?_
          refine QP.pick [0, 3, 4] ?_
          exact QP.meet ⟨_, Option.some.inj h, rfl, rfl, rfl⟩
      · replace hc := (Bool.eq_false_iff.1 hc)
        rw [if_neg hc] at h
        have hc22 := hc
        clear hc
        refine WL.rest 5 [0, 3, 4] (L' := [(0, .string a0), (3, .slice AR8 t6.length cR8), (4, .bool false)]) (by kernel_rfl) ?_
        refine QP.dropAt 0 ?_
        refine QP.pick [0, 3, 4] ?_
        exact QP.meet ⟨_, Option.some.inj h, rfl, rfl, rfl⟩
    · rintro _ _ _ ⟨s10, rfl, rfl, rfl, rfl⟩
      clear h
      replace h := hk11
      refine WP.seqR ?_
      refine WL.pure 0 1 [0, 4, 36] (L' := [(0, .string a0), (4, .bool s10), (36, .slice AR8 t6.length cR8)]) (by kernel_rfl) (by decide) ?_
      rw [Option.bind_eq_some_iff] at h
      obtain ⟨t49, ht50, h⟩ := h
      refine WL.op (op := .call { callee := (.value (.func 49)), args := #[(.tmp 36)], argTypes := #[56] }) (ty := 0) (d := some 37) (g := none) (by kernel_rfl) (by kernel_rfl) (by kernel_rfl) (Does.call (f := 49) (args := [.slice AR8 t6.length cR8]) (by kernel_rfl) (fun W hI => (grapevinelaw0_OverWords_calls k t6 AR8 cR8 CR8 HR8 t49 ht50 hI))) ?_
      rintro _ _ _ ⟨rfl, rfl, rfl⟩
      refine WL.restQ 2 [0, 4] (L' := [(0, .string a0), (4, .bool s10)]) (by kernel_rfl) ?_
      rw [Option.bind_eq_some_iff] at h
      obtain ⟨os53, h, hk54⟩ := h
      refine WP.cut (fun L' G' Γ' => ∃ s53 : Bool, s53 = os53 ∧ L' = [(2, .bool s53)] ∧ G = G' ∧ Γ = Γ') ?_ ?_
      · clear hk54
        refine WP.region ?_
        refine WL.pure 0 2 [0, 39] (L' := [(0, .string a0), (39, .bool s10)]) (by kernel_rfl) (by decide) ?_
        refine WL.split 39 (b := s10) (by kernel_rfl) (fun hc => ?_) (fun hc => ?_)
        · replace hc := hc
          rw [if_pos hc] at h
          have hc55 := hc
          clear hc
          refine WL.pure 2 3 [0, 39, 40] (L' := [(0, .string a0), (39, .bool true), (40, .string a0)]) (by kernel_rfl) (by decide) ?_
          rw [Option.bind_eq_some_iff] at h
          obtain ⟨t56, ht57, h⟩ := h
          refine WL.op (op := .call { callee := (.value (.func 40)), args := #[(.tmp 40)], argTypes := #[9] }) (ty := 56) (d := some 41) (g := some (1, true)) (by kernel_rfl) (by kernel_rfl) (by kernel_rfl) (Does.call (f := 40) (args := [.string a0]) (by kernel_rfl) (fun W hI => (tokens_Of_calls HT k a0  t56 ht57 hI))) ?_
          rintro _ _ _ ⟨AR58, cR58, CR58, rfl, HR58, rfl, rfl⟩
          refine WL.pure 4 5 [39, 41, 42] (L' := [(39, .bool true), (41, .slice AR58 t56.length cR58), (42, .string a0)]) (by kernel_rfl) (by decide) ?_
          rw [Option.bind_eq_some_iff] at h
          obtain ⟨t60, ht61, h⟩ := h
          refine WL.op (op := .call { callee := (.value (.func 42)), args := #[(.tmp 42)], argTypes := #[9] }) (ty := 56) (d := some 43) (g := some (1, true)) (by kernel_rfl) (by kernel_rfl) (by kernel_rfl) (Does.call (f := 42) (args := [.string a0]) (by kernel_rfl) (fun W hI => (grapevineref1_Of_calls HT k a0  t60 ht61 hI))) ?_
          rintro _ _ _ ⟨AR62, cR62, CR62, rfl, HR62, rfl, rfl⟩
          rw [Option.bind_eq_some_iff] at h
          obtain ⟨t64, ht65, h⟩ := h
          refine WL.op (op := .call { callee := (.value (.func 41)), args := #[(.tmp 41), (.tmp 43)], argTypes := #[56, 56] }) (ty := 4) (d := some 44) (g := some (1, true)) (by kernel_rfl) (by kernel_rfl) (by kernel_rfl) (Does.call (Φ := fun v' G' Γ' => v' = .bool t64 ∧ G = G' ∧ CR62 :: CR58 :: Γ = Γ') (f := 41) (args := [.slice AR58 t56.length cR58, .slice AR62 t60.length cR62]) (by kernel_rfl) (fun W hI => (Calls.lendN (Φ := fun v' N => v' = .bool t64 ∧ N = []) (H := []) (i := 1) rfl hI (fun _ e l68 nl68 hI => by subst e; exact Calls.lendN (Φ := fun v' N => v' = .bool t64 ∧ N = []) (H := []) (i := 0) rfl hI (fun _ e l69 nl69 hI => by subst e; exact (((grapevinelaw0_SameWords_calls k t56 t60 AR58 cR58 ((HR58.rdN l68 nl68).mono l69) AR62 cR62 ((HR62.mono l68).rdN l69 nl69) t64 ht65 hI)).mono fun _ _ hr => by obtain ⟨_, _, _, rfl, hd, hI⟩ := hr; obtain ⟨rfl, rfl, rfl⟩ := hd; exact ⟨_, _, _, rfl, ⟨[], ⟨rfl, rfl⟩, rfl, rfl⟩, hI⟩)))).mono fun _ _ hr => by obtain ⟨_, _, _, rfl, ⟨_, hd, rfl, rfl⟩, hI⟩ := hr; obtain ⟨rfl, rfl⟩ := hd; exact ⟨_, _, _, rfl, ⟨rfl, rfl, rfl⟩, hI⟩)) ?_
          rintro _ _ _ ⟨rfl, rfl, rfl⟩
          refine WL.pure 7 9 [46] (L' := [(46, .bool t64)]) (by kernel_rfl) (by decide) ?_
          refine WL.split 46 (b := t64) (by kernel_rfl) (fun hc => ?_) (fun hc => ?_)
          · replace hc := hc
            rw [if_pos hc] at h
            have hc70 := hc
            clear hc
            rw [Option.bind_eq_some_iff] at h
            obtain ⟨t71, ht72, h⟩ := h
            refine WL.op (op := .call { callee := (.value (.func 39)), args := #[], argTypes := #[] }) (ty := 4) (d := some 47) (g := some (8, true)) (by kernel_rfl) (by kernel_rfl) (by kernel_rfl) (Does.call (f := 39) (args := []) (by kernel_rfl) (fun W hI => (grapevinelaw1_awake_calls HT k   t71 ht72 hI))) ?_
            rintro _ _ _ ⟨rfl, rfl, rfl⟩
            refine WL.rest 10 [2] (L' := [(2, .bool t71)]) (by kernel_rfl) ?_
            refine QP.dropAt 1 ?_
            refine QP.dropAt 0 ?_
            refine QP.pick [2] ?_
            exact QP.meet ⟨_, Option.some.inj h, rfl, rfl, rfl⟩
          · replace hc := (Bool.eq_false_iff.1 hc)
            rw [if_neg hc] at h
            have hc70 := hc
            clear hc
            refine WL.rest 9 [2] (L' := [(2, .bool false)]) (by kernel_rfl) ?_
            refine QP.dropAt 1 ?_
            refine QP.dropAt 0 ?_
            refine QP.pick [2] ?_
            exact QP.meet ⟨_, Option.some.inj h, rfl, rfl, rfl⟩
        · replace hc := (Bool.eq_false_iff.1 hc)
          rw [if_neg hc] at h
          have hc55 := hc
          clear hc
          refine WL.rest 2 [2] (L' := [(2, .bool false)]) (by kernel_rfl) ?_
          refine QP.pick [2] ?_
          exact QP.meet ⟨_, Option.some.inj h, rfl, rfl, rfl⟩
      · rintro _ _ _ ⟨s53, rfl, rfl, rfl, rfl⟩
        clear h
        replace h := hk54
        refine WP.ret ?_
        obtain rfl := Option.some.inj h
        exact QP.returned [2] [.bool s53] _ (by kernel_rfl) (by kernel_rfl) (by kernel_rfl) (fun W hI => ⟨_, _, _, rfl, ⟨rfl, rfl, rfl⟩, hI⟩)
/-- The plain law. -/
def TokensTell_Pure : Prop := ∀ (a0 : ByteArray), a0.size ≤ 140737488351232 → ∃ k, grapevinelaw1_TokensTell k a0 = some true
end Go.Proofs.YtjmhhmljldjmjaaDoor.Gf
