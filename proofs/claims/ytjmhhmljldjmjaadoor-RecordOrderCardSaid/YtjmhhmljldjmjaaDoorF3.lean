/- Walks of Go functions: what each tells, as a plain Lean function, and that the Go code comes to it. Written by gg.py of this repo. -/
import Derived.Test.YtjmhhmljldjmjaaDoorT
import Derived.Test.YtjmhhmljldjmjaaDoorF2
namespace Go.Proofs.YtjmhhmljldjmjaaDoor.Gf
open Go Go.Gg
set_option maxRecDepth 100000
set_option linter.unusedVariables false
set_option linter.unusedSimpArgs false

/-! ### slices.stableCmpFunc[grapevine/api.Record]: function 74 -/
def slices_stableCmpFunc_l0 (a1 : Int) : Nat → Int → Int → (List T27) → Option (Int × (List T27))
  | 0, _, _, _ => none
  | k + 1, y3, y4, y5 => (if y4 ≤ a1 then ((slices_insertionSortCmpFunc k y5 y3 y4).bind fun t9 => slices_stableCmpFunc_l0 a1 k y4 (IntKind.i64.wrap (y4 + 20)) t9) else some (y3, y5))
def slices_stableCmpFunc_l2 (a1 : Int) (y19 : Int) : Nat → Int → Int → (List T27) → Option (Int × (List T27))
  | 0, _, _, _ => none
  | k + 1, y26, y27, y28 => (if y27 ≤ a1 then ((slices_symMergeCmpFunc k y28 y26 (IntKind.i64.wrap (y26 + y19)) y27).bind fun t32 => slices_stableCmpFunc_l2 a1 y19 k y27 (IntKind.i64.wrap (y27 + (IntKind.i64.wrap (2 * y19)))) t32) else some (y26, y28))
def slices_stableCmpFunc_l1 (a1 : Int) : Nat → Int → (List T27) → Option (List T27)
  | 0, _, _ => none
  | k + 1, y19, y20 => (if y19 < a1 then ((slices_stableCmpFunc_l2 a1 y19 k 0 (IntKind.i64.wrap (2 * y19)) y20).bind fun s24 => (if (IntKind.i64.wrap (s24.1 + y19)) < a1 then ((slices_symMergeCmpFunc k s24.2 s24.1 (IntKind.i64.wrap (s24.1 + y19)) a1).bind fun t37 => slices_stableCmpFunc_l1 a1 k (IntKind.i64.wrap (y19 * 2)) t37) else slices_stableCmpFunc_l1 a1 k (IntKind.i64.wrap (y19 * 2)) s24.2)) else some y20)
def slices_stableCmpFunc (k : Nat) (l0 : List T27) (a1 : Int) : Option (List T27) := ((slices_stableCmpFunc_l0 a1 k 0 20 l0).bind fun s1 => ((slices_insertionSortCmpFunc k s1.2 s1.1 a1).bind fun t13 => ((slices_stableCmpFunc_l1 a1 k 20 t13).bind fun s17 => some s17)))
set_option maxHeartbeats 4000000 in
theorem slices_stableCmpFunc_calls {B : World} {G : GMap} {Γ : List Chunk} {W : World} (k : Nat) (l0 : List T27) (a1 : Int) (Al0 : Option Addr) (cl0 : Nat) (Cl0 : Chunk) (Hl0 : Ow k27 G Al0 cl0 l0 Cl0) (r : List T27) (h : slices_stableCmpFunc k l0 a1 = some r) (hI : Inv B G ([] :: Cl0 :: Γ) W) :
    Calls Tryd.prog 74 [.slice Al0 l0.length cl0, .int .i64 a1, .func (.func 59) #[] #[]].toArray W (Ret B (fun v G' Γ' => ∃ (CRp0 : Chunk), v = .tuple #[] ∧ Ow k27 G' Al0 cl0 r CRp0 ∧ r.length = l0.length ∧ G = G' ∧ [] :: CRp0 :: Γ = Γ')) := by
  refine calls_WP (Γ := [] :: Cl0 :: Γ) (G := G) (B := B) Tryd.func74 rfl (by kernel_rfl) ?_ hI
  clear hI
  unfold slices_stableCmpFunc at h
  refine WP.seqP [0, 1, 2, 6] (L' := [(0, .slice Al0 l0.length cl0), (1, .int .i64 a1), (2, .func (.func 59) #[] #[]), (6, .int .i64 20)]) (by kernel_rfl) ?_
  refine WP.seqP [0, 1, 2, 6, 7, 8] (L' := [(0, .slice Al0 l0.length cl0), (1, .int .i64 a1), (2, .func (.func 59) #[] #[]), (6, .int .i64 20), (7, .int .i64 0), (8, .int .i64 20)]) (by kernel_rfl) ?_
  rw [Option.bind_eq_some_iff] at h
  obtain ⟨os1, h, hk2⟩ := h
  refine WP.cut (fun L' G' Γ' => ∃ s1 : Int × (List T27), s1 = os1 ∧ ∃ (Cs1_2 : Chunk), L' = [(0, .slice Al0 s1.2.length cl0), (1, .int .i64 a1), (2, .func (.func 59) #[] #[]), (6, .int .i64 20), (7, .int .i64 s1.1)] ∧ G = G' ∧ [] :: Cs1_2 :: Γ = Γ' ∧ Ow k27 G Al0 cl0 s1.2 Cs1_2 ∧ s1.2.length = l0.length) ?_ ?_
  · clear hk2
    refine WP.block ?_
    refine WP.pick [0, 1, 2, 6, 7, 8] ?_
    refine WP.loopF (fun kn6 L' G' Γ' => ∃ (y3 : Int), ∃ (y4 : Int), ∃ (y5 : List T27), slices_stableCmpFunc_l0 a1 kn6 y3 y4 y5 = some os1 ∧ ∃ (Cy5 : Chunk), L' = [(0, .slice Al0 y5.length cl0), (1, .int .i64 a1), (2, .func (.func 59) #[] #[]), (6, .int .i64 20), (7, .int .i64 y3), (8, .int .i64 y4)] ∧ G = G' ∧ [] :: Cy5 :: Γ = Γ' ∧ Ow k27 G Al0 cl0 y5 Cy5 ∧ y5.length = l0.length) ?_ k ⟨0, 20, l0, h, Cl0, rfl, rfl, rfl, Hl0, rfl⟩
    clear h
    rintro kn7 _ _ _ ⟨y3, y4, y5, h, Cy5, rfl, rfl, rfl, Hy5, HLy5⟩
    cases kn7 with
    | zero => exact absurd h (by simp [slices_stableCmpFunc_l0])
    | succ kn7 =>
      simp only [slices_stableCmpFunc_l0] at h
      refine WP.seq ?_
      refine WP.seqP [0, 1, 2, 6, 7, 8, 13] (L' := [(0, .slice Al0 y5.length cl0), (1, .int .i64 a1), (2, .func (.func 59) #[] #[]), (6, .int .i64 20), (7, .int .i64 y3), (8, .int .i64 y4), (13, .bool (decide (y4 ≤ a1)))]) (by kernel_rfl) ?_
      refine WP.cond (b := decide (y4 ≤ a1)) (by kernel_rfl) (fun hc => ?_) (fun hc => ?_)
      · replace hc := of_decide_eq_true hc
        rw [if_pos hc] at h
        have hc8 := hc
        clear hc
        refine WP.skip ?_
        refine QP.next ?_
        refine WP.pick [0, 1, 2, 6, 7, 8] ?_
        refine WP.block ?_
        refine WP.seqR ?_
        refine WL.pure 0 4 [0, 1, 2, 6, 8, 14, 15, 16, 17] (L' := [(0, .slice Al0 y5.length cl0), (1, .int .i64 a1), (2, .func (.func 59) #[] #[]), (6, .int .i64 20), (8, .int .i64 y4), (14, .slice Al0 y5.length cl0), (15, .int .i64 y3), (16, .int .i64 y4), (17, .func (.func 59) #[] #[])]) (by kernel_rfl) (by decide) ?_
        refine WL.front (i := 1) rfl ?_
        refine WL.front (i := 1) rfl ?_
        rw [Option.bind_eq_some_iff] at h
        obtain ⟨t9, ht10, h⟩ := h
        refine WL.op (op := .call { callee := (.value (.func 83)), args := #[(.tmp 14), (.tmp 15), (.tmp 16), (.tmp 17)], argTypes := #[46, 3, 3, 74] }) (ty := 0) (d := some 18) (g := none) (by kernel_rfl) (by kernel_rfl) (by kernel_rfl) (Does.call (f := 83) (args := [.slice Al0 y5.length cl0, .int .i64 y3, .int .i64 y4, .func (.func 59) #[] #[]]) (by kernel_rfl) (fun W hI => (slices_insertionSortCmpFunc_calls kn7 y5 y3 y4 Al0 cl0 Cy5 Hy5 t9 ht10 hI))) ?_
        rintro _ _ _ ⟨CR11p0, rfl, HR11p0, HLR11p0, rfl, rfl⟩
        refine WL.reput 0 (v := .slice Al0 y5.length cl0) (v' := .slice Al0 t9.length cl0) (by kernel_rfl) (by rw [HLR11p0]) ?_
        refine WL.restQ 5 [0, 1, 2, 6, 8] (L' := [(0, .slice Al0 t9.length cl0), (1, .int .i64 a1), (2, .func (.func 59) #[] #[]), (6, .int .i64 20), (8, .int .i64 y4)]) (by kernel_rfl) ?_
        refine WP.seqP [0, 1, 2, 6, 7, 8] (L' := [(0, .slice Al0 t9.length cl0), (1, .int .i64 a1), (2, .func (.func 59) #[] #[]), (6, .int .i64 20), (7, .int .i64 y4), (8, .int .i64 y4)]) (by kernel_rfl) ?_
        refine WP.regionP [0, 1, 2, 6, 7, 8] (L' := [(0, .slice Al0 t9.length cl0), (1, .int .i64 a1), (2, .func (.func 59) #[] #[]), (6, .int .i64 20), (7, .int .i64 y4), (8, .int .i64 (IntKind.i64.wrap (y4 + 20)))]) (by kernel_rfl) ?_
        refine QP.blockN ?_
        refine QP.front (i := 1) rfl ?_
        refine QP.front (i := 1) rfl ?_
        refine QP.pick [0, 1, 2, 6, 7, 8] ?_
        exact QP.meet ⟨kn7, Nat.lt_succ_self _, y4, (IntKind.i64.wrap (y4 + 20)), t9, h, CR11p0, rfl, rfl, rfl, HR11p0, (HLR11p0.trans HLy5)⟩
      · replace hc := of_decide_eq_false hc
        rw [if_neg hc] at h
        have hc8 := hc
        clear hc
        refine WP.exit ?_
        refine QP.thenE ?_
        refine QP.thenE ?_
        refine QP.blockE ?_
        refine QP.pick [0, 1, 2, 6, 7] ?_
        exact QP.meet ⟨_, Option.some.inj h, Cy5, rfl, rfl, rfl, Hy5, HLy5⟩
  · rintro _ _ _ ⟨s1, rfl, Cs1_2, rfl, rfl, rfl, Hs1_2, HLs1_2⟩
    clear h
    replace h := hk2
    refine WP.seqR ?_
    refine WL.pure 0 4 [0, 1, 2, 6, 23, 24, 25, 26] (L' := [(0, .slice Al0 s1.2.length cl0), (1, .int .i64 a1), (2, .func (.func 59) #[] #[]), (6, .int .i64 20), (23, .slice Al0 s1.2.length cl0), (24, .int .i64 s1.1), (25, .int .i64 a1), (26, .func (.func 59) #[] #[])]) (by kernel_rfl) (by decide) ?_
    refine WL.front (i := 1) rfl ?_
    refine WL.front (i := 1) rfl ?_
    rw [Option.bind_eq_some_iff] at h
    obtain ⟨t13, ht14, h⟩ := h
    refine WL.op (op := .call { callee := (.value (.func 83)), args := #[(.tmp 23), (.tmp 24), (.tmp 25), (.tmp 26)], argTypes := #[46, 3, 3, 74] }) (ty := 0) (d := some 27) (g := none) (by kernel_rfl) (by kernel_rfl) (by kernel_rfl) (Does.call (f := 83) (args := [.slice Al0 s1.2.length cl0, .int .i64 s1.1, .int .i64 a1, .func (.func 59) #[] #[]]) (by kernel_rfl) (fun W hI => (slices_insertionSortCmpFunc_calls k s1.2 s1.1 a1 Al0 cl0 Cs1_2 Hs1_2 t13 ht14 hI))) ?_
    rintro _ _ _ ⟨CR15p0, rfl, HR15p0, HLR15p0, rfl, rfl⟩
    refine WL.reput 0 (v := .slice Al0 s1.2.length cl0) (v' := .slice Al0 t13.length cl0) (by kernel_rfl) (by rw [HLR15p0]) ?_
    refine WL.restQ 5 [0, 1, 2, 6] (L' := [(0, .slice Al0 t13.length cl0), (1, .int .i64 a1), (2, .func (.func 59) #[] #[]), (6, .int .i64 20)]) (by kernel_rfl) ?_
    rw [Option.bind_eq_some_iff] at h
    obtain ⟨os17, h, hk18⟩ := h
    refine WP.cutQ (fun L' G' Γ' => ∃ s17 : (List T27), s17 = os17 ∧ ∃ (Cs17 : Chunk), L' = [] ∧ G = G' ∧ [] :: Cs17 :: Γ = Γ' ∧ Ow k27 G Al0 cl0 s17 Cs17 ∧ s17.length = l0.length) ?_ ?_
    · clear hk18
      refine WP.block ?_
      refine WP.pick [0, 1, 2, 6] ?_
      refine WP.loopF (fun kn21 L' G' Γ' => ∃ (y19 : Int), ∃ (y20 : List T27), slices_stableCmpFunc_l1 a1 kn21 y19 y20 = some os17 ∧ ∃ (Cy20 : Chunk), L' = [(0, .slice Al0 y20.length cl0), (1, .int .i64 a1), (2, .func (.func 59) #[] #[]), (6, .int .i64 y19)] ∧ G = G' ∧ [] :: Cy20 :: Γ = Γ' ∧ Ow k27 G Al0 cl0 y20 Cy20 ∧ y20.length = l0.length) ?_ k ⟨20, t13, h, CR15p0, rfl, rfl, rfl, HR15p0, (HLR15p0.trans HLs1_2)⟩
      clear h
      rintro kn22 _ _ _ ⟨y19, y20, h, Cy20, rfl, rfl, rfl, Hy20, HLy20⟩
      cases kn22 with
      | zero => exact absurd h (by simp [slices_stableCmpFunc_l1])
      | succ kn22 =>
        simp only [slices_stableCmpFunc_l1] at h
        refine WP.seq ?_
        refine WP.seqP [0, 1, 2, 6, 30] (L' := [(0, .slice Al0 y20.length cl0), (1, .int .i64 a1), (2, .func (.func 59) #[] #[]), (6, .int .i64 y19), (30, .bool (decide (y19 < a1)))]) (by kernel_rfl) ?_
        refine WP.cond (b := decide (y19 < a1)) (by kernel_rfl) (fun hc => ?_) (fun hc => ?_)
        · replace hc := of_decide_eq_true hc
          rw [if_pos hc] at h
          have hc23 := hc
          clear hc
          refine WP.skip ?_
          refine QP.next ?_
          refine WP.pick [0, 1, 2, 6] ?_
          refine WP.block ?_
          refine WP.seqP [0, 1, 2, 6, 7, 8] (L' := [(0, .slice Al0 y20.length cl0), (1, .int .i64 a1), (2, .func (.func 59) #[] #[]), (6, .int .i64 y19), (7, .int .i64 0), (8, .int .i64 (IntKind.i64.wrap (2 * y19)))]) (by kernel_rfl) ?_
          rw [Option.bind_eq_some_iff] at h
          obtain ⟨os24, h, hk25⟩ := h
          refine WP.cut (fun L' G' Γ' => ∃ s24 : Int × (List T27), s24 = os24 ∧ ∃ (Cs24_2 : Chunk), L' = [(0, .slice Al0 s24.2.length cl0), (1, .int .i64 a1), (2, .func (.func 59) #[] #[]), (6, .int .i64 y19), (7, .int .i64 s24.1)] ∧ G = G' ∧ [] :: Cs24_2 :: Γ = Γ' ∧ Ow k27 G Al0 cl0 s24.2 Cs24_2 ∧ s24.2.length = l0.length) ?_ ?_
          · clear hk25
            refine WP.block ?_
            refine WP.pick [0, 1, 2, 6, 7, 8] ?_
            refine WP.loopF (fun kn29 L' G' Γ' => ∃ (y26 : Int), ∃ (y27 : Int), ∃ (y28 : List T27), slices_stableCmpFunc_l2 a1 y19 kn29 y26 y27 y28 = some os24 ∧ ∃ (Cy28 : Chunk), L' = [(0, .slice Al0 y28.length cl0), (1, .int .i64 a1), (2, .func (.func 59) #[] #[]), (6, .int .i64 y19), (7, .int .i64 y26), (8, .int .i64 y27)] ∧ G = G' ∧ [] :: Cy28 :: Γ = Γ' ∧ Ow k27 G Al0 cl0 y28 Cy28 ∧ y28.length = l0.length) ?_ kn22 ⟨0, (IntKind.i64.wrap (2 * y19)), y20, h, Cy20, rfl, rfl, rfl, Hy20, HLy20⟩
            clear h
            rintro kn30 _ _ _ ⟨y26, y27, y28, h, Cy28, rfl, rfl, rfl, Hy28, HLy28⟩
            cases kn30 with
            | zero => exact absurd h (by simp [slices_stableCmpFunc_l2])
            | succ kn30 =>
              simp only [slices_stableCmpFunc_l2] at h
              refine WP.seq ?_
              refine WP.seqP [0, 1, 2, 6, 7, 8, 35] (L' := [(0, .slice Al0 y28.length cl0), (1, .int .i64 a1), (2, .func (.func 59) #[] #[]), (6, .int .i64 y19), (7, .int .i64 y26), (8, .int .i64 y27), (35, .bool (decide (y27 ≤ a1)))]) (by kernel_rfl) ?_
              refine WP.cond (b := decide (y27 ≤ a1)) (by kernel_rfl) (fun hc => ?_) (fun hc => ?_)
              · replace hc := of_decide_eq_true hc
                rw [if_pos hc] at h
                have hc31 := hc
                clear hc
                refine WP.skip ?_
                refine QP.next ?_
                refine WP.pick [0, 1, 2, 6, 7, 8] ?_
                refine WP.block ?_
                refine WP.seqR ?_
                refine WL.pure 0 7 [0, 1, 2, 6, 8, 36, 37, 40, 41, 42] (L' := [(0, .slice Al0 y28.length cl0), (1, .int .i64 a1), (2, .func (.func 59) #[] #[]), (6, .int .i64 y19), (8, .int .i64 y27), (36, .slice Al0 y28.length cl0), (37, .int .i64 y26), (40, .int .i64 (IntKind.i64.wrap (y26 + y19))), (41, .int .i64 y27), (42, .func (.func 59) #[] #[])]) (by kernel_rfl) (by decide) ?_
                refine WL.front (i := 1) rfl ?_
                refine WL.front (i := 1) rfl ?_
                rw [Option.bind_eq_some_iff] at h
                obtain ⟨t32, ht33, h⟩ := h
                refine WL.op (op := .call { callee := (.value (.func 84)), args := #[(.tmp 36), (.tmp 37), (.tmp 40), (.tmp 41), (.tmp 42)], argTypes := #[46, 3, 3, 3, 74] }) (ty := 0) (d := some 43) (g := none) (by kernel_rfl) (by kernel_rfl) (by kernel_rfl) (Does.call (f := 84) (args := [.slice Al0 y28.length cl0, .int .i64 y26, .int .i64 (IntKind.i64.wrap (y26 + y19)), .int .i64 y27, .func (.func 59) #[] #[]]) (by kernel_rfl) (fun W hI => (slices_symMergeCmpFunc_calls kn30 y28 y26 (IntKind.i64.wrap (y26 + y19)) y27 Al0 cl0 Cy28 Hy28 t32 ht33 hI))) ?_
                rintro _ _ _ ⟨CR34p0, rfl, HR34p0, HLR34p0, rfl, rfl⟩
                refine WL.reput 0 (v := .slice Al0 y28.length cl0) (v' := .slice Al0 t32.length cl0) (by kernel_rfl) (by rw [HLR34p0]) ?_
                refine WL.restQ 8 [0, 1, 2, 6, 8] (L' := [(0, .slice Al0 t32.length cl0), (1, .int .i64 a1), (2, .func (.func 59) #[] #[]), (6, .int .i64 y19), (8, .int .i64 y27)]) (by kernel_rfl) ?_
                refine WP.seqP [0, 1, 2, 6, 7, 8] (L' := [(0, .slice Al0 t32.length cl0), (1, .int .i64 a1), (2, .func (.func 59) #[] #[]), (6, .int .i64 y19), (7, .int .i64 y27), (8, .int .i64 y27)]) (by kernel_rfl) ?_
                refine WP.regionP [0, 1, 2, 6, 7, 8] (L' := [(0, .slice Al0 t32.length cl0), (1, .int .i64 a1), (2, .func (.func 59) #[] #[]), (6, .int .i64 y19), (7, .int .i64 y27), (8, .int .i64 (IntKind.i64.wrap (y27 + (IntKind.i64.wrap (2 * y19)))))]) (by kernel_rfl) ?_
                refine QP.blockN ?_
                refine QP.front (i := 1) rfl ?_
                refine QP.front (i := 1) rfl ?_
                refine QP.pick [0, 1, 2, 6, 7, 8] ?_
                exact QP.meet ⟨kn30, Nat.lt_succ_self _, y27, (IntKind.i64.wrap (y27 + (IntKind.i64.wrap (2 * y19)))), t32, h, CR34p0, rfl, rfl, rfl, HR34p0, (HLR34p0.trans HLy28)⟩
              · replace hc := of_decide_eq_false hc
                rw [if_neg hc] at h
                have hc31 := hc
                clear hc
                refine WP.exit ?_
                refine QP.thenE ?_
                refine QP.thenE ?_
                refine QP.blockE ?_
                refine QP.pick [0, 1, 2, 6, 7] ?_
                exact QP.meet ⟨_, Option.some.inj h, Cy28, rfl, rfl, rfl, Hy28, HLy28⟩
          · rintro _ _ _ ⟨s24, rfl, Cs24_2, rfl, rfl, rfl, Hs24_2, HLs24_2⟩
            clear h
            replace h := hk25
            refine WP.seq ?_
            refine WP.seqP [0, 1, 2, 6, 7, 9] (L' := [(0, .slice Al0 s24.2.length cl0), (1, .int .i64 a1), (2, .func (.func 59) #[] #[]), (6, .int .i64 y19), (7, .int .i64 s24.1), (9, .int .i64 (IntKind.i64.wrap (s24.1 + y19)))]) (by kernel_rfl) ?_
            refine WP.seqP [0, 1, 2, 6, 7, 9, 54] (L' := [(0, .slice Al0 s24.2.length cl0), (1, .int .i64 a1), (2, .func (.func 59) #[] #[]), (6, .int .i64 y19), (7, .int .i64 s24.1), (9, .int .i64 (IntKind.i64.wrap (s24.1 + y19))), (54, .bool (decide ((IntKind.i64.wrap (s24.1 + y19)) < a1)))]) (by kernel_rfl) ?_
            refine WP.cond (b := decide ((IntKind.i64.wrap (s24.1 + y19)) < a1)) (by kernel_rfl) (fun hc => ?_) (fun hc => ?_)
            · replace hc := of_decide_eq_true hc
              rw [if_pos hc] at h
              have hc36 := hc
              clear hc
              refine WP.region ?_
              refine WL.pure 0 5 [0, 1, 2, 6, 55, 56, 57, 58, 59] (L' := [(0, .slice Al0 s24.2.length cl0), (1, .int .i64 a1), (2, .func (.func 59) #[] #[]), (6, .int .i64 y19), (55, .slice Al0 s24.2.length cl0), (56, .int .i64 s24.1), (57, .int .i64 (IntKind.i64.wrap (s24.1 + y19))), (58, .int .i64 a1), (59, .func (.func 59) #[] #[])]) (by kernel_rfl) (by decide) ?_
              refine WL.front (i := 1) rfl ?_
              refine WL.front (i := 1) rfl ?_
              rw [Option.bind_eq_some_iff] at h
              obtain ⟨t37, ht38, h⟩ := h
              refine WL.op (op := .call { callee := (.value (.func 84)), args := #[(.tmp 55), (.tmp 56), (.tmp 57), (.tmp 58), (.tmp 59)], argTypes := #[46, 3, 3, 3, 74] }) (ty := 0) (d := some 60) (g := none) (by kernel_rfl) (by kernel_rfl) (by kernel_rfl) (Does.call (f := 84) (args := [.slice Al0 s24.2.length cl0, .int .i64 s24.1, .int .i64 (IntKind.i64.wrap (s24.1 + y19)), .int .i64 a1, .func (.func 59) #[] #[]]) (by kernel_rfl) (fun W hI => (slices_symMergeCmpFunc_calls kn22 s24.2 s24.1 (IntKind.i64.wrap (s24.1 + y19)) a1 Al0 cl0 Cs24_2 Hs24_2 t37 ht38 hI))) ?_
              rintro _ _ _ ⟨CR39p0, rfl, HR39p0, HLR39p0, rfl, rfl⟩
              refine WL.reput 0 (v := .slice Al0 s24.2.length cl0) (v' := .slice Al0 t37.length cl0) (by kernel_rfl) (by rw [HLR39p0]) ?_
              refine WL.rest 6 [0, 1, 2, 6] (L' := [(0, .slice Al0 t37.length cl0), (1, .int .i64 a1), (2, .func (.func 59) #[] #[]), (6, .int .i64 y19)]) (by kernel_rfl) ?_
              refine QP.next ?_
              refine WP.pick [0, 1, 2, 6] ?_
              refine WP.regionP [0, 1, 2, 6] (L' := [(0, .slice Al0 t37.length cl0), (1, .int .i64 a1), (2, .func (.func 59) #[] #[]), (6, .int .i64 (IntKind.i64.wrap (y19 * 2)))]) (by kernel_rfl) ?_
              refine QP.blockN ?_
              refine QP.front (i := 1) rfl ?_
              refine QP.front (i := 1) rfl ?_
              refine QP.pick [0, 1, 2, 6] ?_
              exact QP.meet ⟨kn22, Nat.lt_succ_self _, (IntKind.i64.wrap (y19 * 2)), t37, h, CR39p0, rfl, rfl, rfl, HR39p0, (HLR39p0.trans HLs24_2)⟩
            · replace hc := of_decide_eq_false hc
              rw [if_neg hc] at h
              have hc36 := hc
              clear hc
              refine WP.skip ?_
              refine QP.next ?_
              refine WP.pick [0, 1, 2, 6] ?_
              refine WP.regionP [0, 1, 2, 6] (L' := [(0, .slice Al0 s24.2.length cl0), (1, .int .i64 a1), (2, .func (.func 59) #[] #[]), (6, .int .i64 (IntKind.i64.wrap (y19 * 2)))]) (by kernel_rfl) ?_
              refine QP.blockN ?_
              refine QP.front (i := 1) rfl ?_
              refine QP.front (i := 1) rfl ?_
              refine QP.pick [0, 1, 2, 6] ?_
              exact QP.meet ⟨kn22, Nat.lt_succ_self _, (IntKind.i64.wrap (y19 * 2)), s24.2, h, Cs24_2, rfl, rfl, rfl, Hs24_2, HLs24_2⟩
        · replace hc := of_decide_eq_false hc
          rw [if_neg hc] at h
          have hc23 := hc
          clear hc
          refine WP.exit ?_
          refine QP.thenE ?_
          refine QP.thenE ?_
          refine QP.blockE ?_
          refine QP.pick [] ?_
          exact QP.meet ⟨_, Option.some.inj h, Cy20, rfl, rfl, rfl, Hy20, HLy20⟩
    · rintro _ _ _ ⟨s17, rfl, Cs17, rfl, rfl, rfl, Hs17, HLs17⟩
      clear h
      replace h := hk18
      obtain rfl := Option.some.inj h
      exact QP.returnedN [] [] _ (by kernel_rfl) (by kernel_rfl) (by kernel_rfl) (fun W hI => ⟨_, _, _, rfl, ⟨Cs17, rfl, Hs17, HLs17, rfl, rfl⟩, hI⟩)

/-! ### slices.SortStableFunc[[]grapevine/api.Record,grapevine/api.Record]: function 58 -/
def slices_SortStableFunc (k : Nat) (l0 : List T27) : Option (List T27) := ((slices_stableCmpFunc k l0 (l0.length : Int)).bind fun t1 => some t1)
set_option maxHeartbeats 4000000 in
theorem slices_SortStableFunc_calls {B : World} {G : GMap} {Γ : List Chunk} {W : World} (k : Nat) (l0 : List T27) (Al0 : Option Addr) (cl0 : Nat) (Cl0 : Chunk) (Hl0 : Ow k27 G Al0 cl0 l0 Cl0) (r : List T27) (h : slices_SortStableFunc k l0 = some r) (hI : Inv B G ([] :: Cl0 :: Γ) W) :
    Calls Tryd.prog 58 [.slice Al0 l0.length cl0, .func (.func 59) #[] #[]].toArray W (Ret B (fun v G' Γ' => ∃ (CRp0 : Chunk), v = .tuple #[] ∧ Ow k27 G' Al0 cl0 r CRp0 ∧ r.length = l0.length ∧ G = G' ∧ [] :: CRp0 :: Γ = Γ')) := by
  refine calls_WP (Γ := [] :: Cl0 :: Γ) (G := G) (B := B) Tryd.func58 rfl (by kernel_rfl) ?_ hI
  clear hI
  unfold slices_SortStableFunc at h
  refine WP.region ?_
  refine WL.pure 0 4 [4, 6, 7] (L' := [(4, .slice Al0 l0.length cl0), (6, .int .i64 (l0.length : Int)), (7, .func (.func 59) #[] #[])]) (by kernel_rfl) (by decide) ?_
  refine WL.front (i := 1) rfl ?_
  refine WL.front (i := 1) rfl ?_
  rw [Option.bind_eq_some_iff] at h
  obtain ⟨t1, ht2, h⟩ := h
  refine WL.op (op := .call { callee := (.value (.func 74)), args := #[(.tmp 4), (.tmp 6), (.tmp 7)], argTypes := #[46, 3, 74] }) (ty := 0) (d := some 8) (g := none) (by kernel_rfl) (by kernel_rfl) (by kernel_rfl) (Does.call (f := 74) (args := [.slice Al0 l0.length cl0, .int .i64 (l0.length : Int), .func (.func 59) #[] #[]]) (by kernel_rfl) (fun W hI => (slices_stableCmpFunc_calls k l0 (l0.length : Int) Al0 cl0 Cl0 Hl0 t1 ht2 hI))) ?_
  rintro _ _ _ ⟨CR3p0, rfl, HR3p0, HLR3p0, rfl, rfl⟩
  refine WL.rest 5 [] (L' := []) (by kernel_rfl) ?_
  obtain rfl := Option.some.inj h
  exact QP.returnedN [] [] _ (by kernel_rfl) (by kernel_rfl) (by kernel_rfl) (fun W hI => ⟨_, _, _, rfl, ⟨CR3p0, rfl, HR3p0, HLR3p0, rfl, rfl⟩, hI⟩)

/-! ### grapevine/record.Sort: function 28 -/
def record_Sort (k : Nat) (l0 : List T27) : Option (List T27) := ((slices_Clone l0).bind fun t1 => ((slices_SortStableFunc k t1).bind fun t5 => some t5))
set_option maxHeartbeats 4000000 in
theorem record_Sort_calls {B : World} {G : GMap} {Γ : List Chunk} {W : World} (k : Nat) (l0 : List T27) (Al0 : Option Addr) (cl0 : Nat) (Hl0 : Rd k27 G Al0 cl0 l0) (r : List T27) (h : record_Sort k l0 = some r) (hI : Inv B G (Γ) W) :
    Calls Tryd.prog 28 [.slice Al0 l0.length cl0].toArray W (Ret B (fun v G' Γ' => ∃ (AR : Option Addr), ∃ (cR : Nat), ∃ (CR : Chunk), v = .slice AR r.length cR ∧ Ow k27 G' AR cR r CR ∧ G = G' ∧ CR :: Γ = Γ')) := by
  refine calls_WP (Γ := Γ) (G := G) (B := B) Tryd.func28 rfl (by kernel_rfl) ?_ hI
  clear hI
  unfold record_Sort at h
  refine WP.seqP [0] (L' := [(0, .slice Al0 l0.length cl0)]) (by kernel_rfl) ?_
  refine WP.seqR ?_
  refine WL.pure 0 1 [4] (L' := [(4, .slice Al0 l0.length cl0)]) (by kernel_rfl) (by decide) ?_
  rw [Option.bind_eq_some_iff] at h
  obtain ⟨t1, ht2, h⟩ := h
  refine WL.op (op := .call { callee := (.value (.func 57)), args := #[(.tmp 4)], argTypes := #[46] }) (ty := 46) (d := some 5) (g := none) (by kernel_rfl) (by kernel_rfl) (by kernel_rfl) (Does.call (f := 57) (args := [.slice Al0 l0.length cl0]) (by kernel_rfl) (fun W hI => (slices_Clone_calls l0 Al0 cl0 Hl0 t1 ht2 hI))) ?_
  rintro _ _ _ ⟨AR3, cR3, CR3, rfl, HR3, rfl, rfl⟩
  refine WL.restQ 2 [3] (L' := [(3, .slice AR3 t1.length cR3)]) (by kernel_rfl) ?_
  refine WP.seqR ?_
  refine WL.pure 0 1 [3, 6] (L' := [(3, .slice AR3 t1.length cR3), (6, .slice AR3 t1.length cR3)]) (by kernel_rfl) (by decide) ?_
  refine WL.addNil ?_
  refine WL.front (i := 1) rfl ?_
  refine WL.front (i := 1) rfl ?_
  rw [Option.bind_eq_some_iff] at h
  obtain ⟨t5, ht6, h⟩ := h
  refine WL.op (op := .call { callee := (.value (.func 58)), args := #[(.tmp 6), (.func 59)], argTypes := #[46, 74] }) (ty := 0) (d := some 7) (g := none) (by kernel_rfl) (by kernel_rfl) (by kernel_rfl) (Does.call (f := 58) (args := [.slice AR3 t1.length cR3, .func (.func 59) #[] #[]]) (by kernel_rfl) (fun W hI => (slices_SortStableFunc_calls k t1 AR3 cR3 CR3 HR3 t5 ht6 hI))) ?_
  rintro _ _ _ ⟨CR8p0, rfl, HR8p0, HLR8p0, rfl, rfl⟩
  refine WL.reput 3 (v := .slice AR3 t1.length cR3) (v' := .slice AR3 t5.length cR3) (by kernel_rfl) (by rw [HLR8p0]) ?_
  refine WL.restQ 2 [3] (L' := [(3, .slice AR3 t5.length cR3)]) (by kernel_rfl) ?_
  refine WP.dropAt 0 ?_
  refine WP.seqP [2] (L' := [(2, .slice AR3 t5.length cR3)]) (by kernel_rfl) ?_
  refine WP.ret ?_
  obtain rfl := Option.some.inj h
  exact QP.returned [2] [.slice AR3 t5.length cR3] _ (by kernel_rfl) (by kernel_rfl) (by kernel_rfl) (fun W hI => ⟨_, _, _, rfl, ⟨AR3, cR3, CR8p0, rfl, HR8p0, rfl, rfl⟩, hI⟩)

/-! ### grapevine/grapevinelaw0.SameRecords: function 29 -/
def grapevinelaw0_SameRecords_l0 (l0 : List T27) (l1 : List T27) : Nat → Int → Option (Sum Bool Unit)
  | 0, _ => none
  | k + 1, y4 => (if y4 < (l0.length : Int) then (if 0 ≤ y4 ∧ y4 < (l0.length : Int) then (if 0 ≤ y4 ∧ y4 < (l1.length : Int) then (if ¬ (l0.getD y4.toNat z27) = (l1.getD y4.toNat z27) then some (Sum.inl false) else grapevinelaw0_SameRecords_l0 l0 l1 k (IntKind.i64.wrap (y4 + 1))) else none) else none) else some (Sum.inr ()))
def grapevinelaw0_SameRecords (k : Nat) (l0 : List T27) (l1 : List T27) : Option Bool := (if ¬ (l0.length : Int) = (l1.length : Int) then some false else ((grapevinelaw0_SameRecords_l0 l0 l1 k 0).bind fun os2 => match os2 with | Sum.inl r => some r | Sum.inr s2 => some true))
set_option maxHeartbeats 4000000 in
theorem grapevinelaw0_SameRecords_calls {B : World} {G : GMap} {Γ : List Chunk} {W : World} (k : Nat) (l0 : List T27) (l1 : List T27) (Al0 : Option Addr) (cl0 : Nat) (Hl0 : Rd k27 G Al0 cl0 l0) (Al1 : Option Addr) (cl1 : Nat) (Hl1 : Rd k27 G Al1 cl1 l1) (r : Bool) (h : grapevinelaw0_SameRecords k l0 l1 = some r) (hI : Inv B G (Γ) W) :
    Calls Tryd.prog 29 [.slice Al0 l0.length cl0, .slice Al1 l1.length cl1].toArray W (Ret B (fun v G' Γ' => v = .bool r ∧ G = G' ∧ Γ = Γ')) := by
  refine calls_WP (Γ := Γ) (G := G) (B := B) Tryd.func29 rfl (by kernel_rfl) ?_ hI
  clear hI
  unfold grapevinelaw0_SameRecords at h
  refine WP.seqP [0, 1] (L' := [(0, .slice Al0 l0.length cl0), (1, .slice Al1 l1.length cl1)]) (by kernel_rfl) ?_
  refine WP.seq ?_
  refine WP.seqP [0, 1, 10] (L' := [(0, .slice Al0 l0.length cl0), (1, .slice Al1 l1.length cl1), (10, .bool ((l0.length : Int) != (l1.length : Int)))]) (by kernel_rfl) ?_
  refine WP.cond (b := ((l0.length : Int) != (l1.length : Int))) (by kernel_rfl) (fun hc => ?_) (fun hc => ?_)
  · replace hc := (bne_iff_ne.1 hc)
    rw [if_pos hc] at h
    have hc1 := hc
    clear hc
    refine WP.seqP [4] (L' := [(4, .bool false)]) (by kernel_rfl) ?_
    refine WP.ret ?_
    refine QP.thenR ?_
    obtain rfl := Option.some.inj h
    exact QP.returned [4] [.bool false] _ (by kernel_rfl) (by kernel_rfl) (by kernel_rfl) (fun W hI => ⟨_, _, _, rfl, ⟨rfl, rfl, rfl⟩, hI⟩)
  · replace hc := (not_not_intro (bne_eq_false_iff_eq.1 hc))
    rw [if_neg hc] at h
    have hc1 := hc
    clear hc
    refine WP.skip ?_
    refine QP.next ?_
    refine WP.pick [0, 1] ?_
    refine WP.seq ?_
    refine WP.seqP [0, 1, 5] (L' := [(0, .slice Al0 l0.length cl0), (1, .slice Al1 l1.length cl1), (5, .int .i64 0)]) (by kernel_rfl) ?_
    rw [Option.bind_eq_some_iff] at h
    obtain ⟨os2, h, hk3⟩ := h
    refine WP.cutQ (fun L' G' Γ' => ∃ s2 : Unit, Sum.inr s2 = os2 ∧ L' = [] ∧ G = G' ∧ Γ = Γ') ?_ ?_
    · skip
      refine WP.block ?_
      refine WP.pick [0, 1, 5] ?_
      refine WP.loopF (fun kn5 L' G' Γ' => ∃ (y4 : Int), grapevinelaw0_SameRecords_l0 l0 l1 kn5 y4 = some os2 ∧ L' = [(0, .slice Al0 l0.length cl0), (1, .slice Al1 l1.length cl1), (5, .int .i64 y4)] ∧ G = G' ∧ Γ = Γ') ?_ k ⟨0, h, rfl, rfl, rfl⟩
      clear h
      rintro kn6 _ _ _ ⟨y4, h, rfl, rfl, rfl⟩
      cases kn6 with
      | zero => exact absurd h (by simp [grapevinelaw0_SameRecords_l0])
      | succ kn6 =>
        simp only [grapevinelaw0_SameRecords_l0] at h
        refine WP.seq ?_
        refine WP.seqP [0, 1, 5, 14] (L' := [(0, .slice Al0 l0.length cl0), (1, .slice Al1 l1.length cl1), (5, .int .i64 y4), (14, .bool (decide (y4 < (l0.length : Int))))]) (by kernel_rfl) ?_
        refine WP.cond (b := decide (y4 < (l0.length : Int))) (by kernel_rfl) (fun hc => ?_) (fun hc => ?_)
        · replace hc := of_decide_eq_true hc
          rw [if_pos hc] at h
          have hc7 := hc
          clear hc
          refine WP.skip ?_
          refine QP.next ?_
          refine WP.pick [0, 1, 5] ?_
          refine WP.seq ?_
          refine WP.block ?_
          refine WP.seq ?_
          refine WP.any (N := 9) (S := [⟨some 17, [0], []⟩, ⟨some 18, [5], []⟩, ⟨some 19, [17, 18], [0, 1]⟩, ⟨some 20, [19], [2]⟩, ⟨some 21, [1], []⟩, ⟨some 22, [5], []⟩, ⟨some 23, [21, 22], [4, 5]⟩, ⟨some 24, [23], [6]⟩, ⟨some 25, [20, 24], [3, 7]⟩]) (kw := 9) (G0 := G) (Γ0 := Γ) mo (by kernel_rfl) (fun hS => ?_)
          refine WA.pure [0, 1, 4, 5] [0, 1, 5, 17, 18, 21, 22] (m := 5) (b' := 51) (L' := [(0, .slice Al0 l0.length cl0), (1, .slice Al1 l1.length cl1), (5, .int .i64 y4), (17, .slice Al0 l0.length cl0), (18, .int .i64 y4), (21, .slice Al1 l1.length cl1), (22, .int .i64 y4)]) (by kernel_rfl) (NoPanic.then (NoPanic.block (NoPanic.then (NoPanic.then (NoPanic.block (NoPanic.then (NoPanic.then (NoPanic.body)))))))) Under.refl hS (by kernel_rfl) ?_
          by_cases hb8 : 0 ≤ y4 ∧ y4 < (l0.length : Int)
          case neg => rw [if_neg hb8] at h; cases h
          rw [if_pos hb8] at h
          refine WA.tellD [] (i := 2) (m := 4) (b' := 55) (by kernel_rfl) (NoPanic.then (NoPanic.block (NoPanic.then (NoPanic.then (NoPanic.block (NoPanic.then (NoPanic.then (NoPanic.body)))))))) Under.refl hS (by kernel_rfl) (op := .indexAddr 46 (.tmp 17) (.tmp 18)) (ty := 0) (d := some 19) (g := none) (by kernel_rfl) (by kernel_rfl) (by kernel_rfl) (Tells.indexAddr (A := Al0) (n := l0.length) (c := cl0) (k := .i64) (j := y4) (by kernel_rfl) (by kernel_rfl) (Hl0.isSome hb8.1 hb8.2) hb8.1 hb8.2 sl46) ?_
          refine WA.tellDE [] (i := 3) (m := 3) (b' := 63) (by kernel_rfl) (NoPanic.then (NoPanic.block (NoPanic.then (NoPanic.then (NoPanic.block (NoPanic.then (NoPanic.then (NoPanic.body)))))))) Under.refl hS (by kernel_rfl) (op := .load 27 (.tmp 19)) (ty := 27) (d := some 20) (g := none) (by kernel_rfl) (by kernel_rfl) (by kernel_rfl) (Hl0.load (agg := true) hb8.1 hb8.2 z27 ag27 (fun h => by cases h) (by kernel_rfl)) ?_
          rintro _ rfl
          by_cases hb9 : 0 ≤ y4 ∧ y4 < (l1.length : Int)
          case neg => rw [if_neg hb9] at h; cases h
          rw [if_pos hb9] at h
          refine WA.tellD [] (i := 6) (m := 2) (b' := 127) (by kernel_rfl) (NoPanic.then (NoPanic.block (NoPanic.then (NoPanic.then (NoPanic.block (NoPanic.then (NoPanic.then (NoPanic.body)))))))) Under.refl hS (by kernel_rfl) (op := .indexAddr 46 (.tmp 21) (.tmp 22)) (ty := 0) (d := some 23) (g := none) (by kernel_rfl) (by kernel_rfl) (by kernel_rfl) (Tells.indexAddr (A := Al1) (n := l1.length) (c := cl1) (k := .i64) (j := y4) (by kernel_rfl) (by kernel_rfl) (Hl1.isSome hb9.1 hb9.2) hb9.1 hb9.2 sl46) ?_
          refine WA.tellDE [] (i := 7) (m := 1) (b' := 255) (by kernel_rfl) (NoPanic.then (NoPanic.block (NoPanic.then (NoPanic.then (NoPanic.block (NoPanic.then (NoPanic.then (NoPanic.body)))))))) Under.refl hS (by kernel_rfl) (op := .load 27 (.tmp 23)) (ty := 27) (d := some 24) (g := none) (by kernel_rfl) (by kernel_rfl) (by kernel_rfl) (Hl1.load (agg := true) hb9.1 hb9.2 z27 ag27 (fun h => by cases h) (by kernel_rfl)) ?_
          rintro _ rfl
          refine WA.tellD [] (i := 8) (m := 0) (b' := 511) (by kernel_rfl) (NoPanic.then (NoPanic.block (NoPanic.then (NoPanic.then (NoPanic.block (NoPanic.then (NoPanic.then (NoPanic.body)))))))) Under.refl hS (by kernel_rfl) (op := .binOp .neq 27 (.tmp 20) (.tmp 24) 27) (ty := 4) (d := some 25) (g := none) (by kernel_rfl) (by kernel_rfl) (by kernel_rfl) (Tells.neAgg (xs := #[.int .i64 ((l0.getD y4.toNat z27).f0), .int .i64 ((l0.getD y4.toNat z27).f1), .int .i64 ((l0.getD y4.toNat z27).f2), .int .i64 ((l0.getD y4.toNat z27).f3), .string ((l0.getD y4.toNat z27).f4)]) (ys := #[.int .i64 ((l1.getD y4.toNat z27).f0), .int .i64 ((l1.getD y4.toNat z27).f1), .int .i64 ((l1.getD y4.toNat z27).f2), .int .i64 ((l1.getD y4.toNat z27).f3), .string ((l1.getD y4.toNat z27).f4)]) (ls := [.int ((l0.getD y4.toNat z27).f0) ((l1.getD y4.toNat z27).f0), .int ((l0.getD y4.toNat z27).f1) ((l1.getD y4.toNat z27).f1), .int ((l0.getD y4.toNat z27).f2) ((l1.getD y4.toNat z27).f2), .int ((l0.getD y4.toNat z27).f3) ((l1.getD y4.toNat z27).f3), .str ((l0.getD y4.toNat z27).f4) ((l1.getD y4.toNat z27).f4)]) (by kernel_rfl) (by kernel_rfl) (by kernel_rfl) eg27) ?_
          refine WA.reput 25 (v := .bool (!([.int ((l0.getD y4.toNat z27).f0) ((l1.getD y4.toNat z27).f0), .int ((l0.getD y4.toNat z27).f1) ((l1.getD y4.toNat z27).f1), .int ((l0.getD y4.toNat z27).f2) ((l1.getD y4.toNat z27).f2), .int ((l0.getD y4.toNat z27).f3) ((l1.getD y4.toNat z27).f3), .str ((l0.getD y4.toNat z27).f4) ((l1.getD y4.toNat z27).f4)].all Lf.ok))) (v' := .bool (!decide ((l0.getD y4.toNat z27) = (l1.getD y4.toNat z27)))) (by kernel_rfl) (by exact (congrArg (fun z => Value.bool (!z)) (eqT27 (l0.getD y4.toNat z27) (l1.getD y4.toNat z27)))) ?_
          refine WA.done hS (by kernel_rfl) ?_
          refine QP.pick [0, 1, 5, 25] ?_
          refine QP.next ?_
          refine WP.cond (b := (!decide ((l0.getD y4.toNat z27) = (l1.getD y4.toNat z27)))) (by kernel_rfl) (fun hc => ?_) (fun hc => ?_)
          · replace hc := (nd_true hc)
            rw [if_pos hc] at h
            have hc10 := hc
            clear hc
            refine WP.seqP [4] (L' := [(4, .bool false)]) (by kernel_rfl) ?_
            refine WP.ret ?_
            refine QP.blockR ?_
            refine QP.thenR ?_
            refine QP.thenR ?_
            refine QP.blockR ?_
            refine QP.thenR ?_
            refine QP.thenR ?_
            obtain rfl := Option.some.inj h
            obtain rfl := Option.some.inj (show some _ = some _ from hk3)
            exact QP.returned [4] [.bool false] _ (by kernel_rfl) (by kernel_rfl) (by kernel_rfl) (fun W hI => ⟨_, _, _, rfl, ⟨rfl, rfl, rfl⟩, hI⟩)
          · replace hc := (nd_false hc)
            rw [if_neg hc] at h
            have hc10 := hc
            clear hc
            refine WP.skip ?_
            refine QP.blockN ?_
            refine QP.next ?_
            refine WP.pick [0, 1, 5] ?_
            refine WP.regionP [0, 1, 5] (L' := [(0, .slice Al0 l0.length cl0), (1, .slice Al1 l1.length cl1), (5, .int .i64 (IntKind.i64.wrap (y4 + 1)))]) (by kernel_rfl) ?_
            refine QP.pick [0, 1, 5] ?_
            exact QP.meet ⟨kn6, Nat.lt_succ_self _, (IntKind.i64.wrap (y4 + 1)), h, rfl, rfl, rfl⟩
        · replace hc := of_decide_eq_false hc
          rw [if_neg hc] at h
          have hc7 := hc
          clear hc
          refine WP.exit ?_
          refine QP.thenE ?_
          refine QP.thenE ?_
          refine QP.blockE ?_
          refine QP.pick [] ?_
          exact QP.meet ⟨_, Option.some.inj h, rfl, rfl, rfl⟩
    · rintro _ _ _ ⟨s2, rfl, rfl, rfl, rfl⟩
      clear h
      replace h := hk3
      dsimp only at h
      refine QP.next ?_
      refine WP.pick [] ?_
      refine WP.seqP [4] (L' := [(4, .bool true)]) (by kernel_rfl) ?_
      refine WP.ret ?_
      obtain rfl := Option.some.inj h
      exact QP.returned [4] [.bool true] _ (by kernel_rfl) (by kernel_rfl) (by kernel_rfl) (fun W hI => ⟨_, _, _, rfl, ⟨rfl, rfl, rfl⟩, hI⟩)
end Go.Proofs.YtjmhhmljldjmjaaDoor.Gf
