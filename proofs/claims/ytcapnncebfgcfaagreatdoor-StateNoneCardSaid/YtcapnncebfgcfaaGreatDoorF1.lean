/- Walks of Go functions: what each tells, as a plain Lean function, and that the Go code comes to it. Written by gg.py of this repo. -/
import Derived.Test.YtcapnncebfgcfaaGreatDoorT
import Derived.Test.YtcapnncebfgcfaaGreatDoorF0
namespace Go.Proofs.YtcapnncebfgcfaaGreatDoor.Gf
open Go Go.Gg
set_option maxRecDepth 100000
set_option linter.unusedVariables false
set_option linter.unusedSimpArgs false

/-! ### grapevine/vector.fold: function 46 -/
def vector_fold_l1 (l0 : List (List Int)) (y3 : List Int) (y4 : Int) : Nat → Int → (List Int) → Option (List Int)
  | 0, _, _ => none
  | k + 1, y16, y17 => (if y16 < (y3.length : Int) then (if 0 ≤ y16 ∧ y16 < (y17.length : Int) then (if 0 ≤ y16 ∧ y16 < ((l0.getD y4.toNat []).length : Int) then ((vector_Join_1 (y17.getD y16.toNat 0) ((l0.getD y4.toNat []).getD y16.toNat 0)).bind fun t23 => (if 0 ≤ y16 ∧ y16 < (y17.length : Int) then vector_fold_l1 l0 y3 y4 k (IntKind.i64.wrap (y16 + 1)) (y17.set y16.toNat t23) else none)) else none) else none) else some y17)
def vector_fold_l0 (l0 : List (List Int)) : Nat → (List Int) → Int → Option (Sum (List Int) (List Int))
  | 0, _, _ => none
  | k + 1, y3, y4 => (if y4 < (l0.length : Int) then (if 0 ≤ y4 ∧ y4 < (l0.length : Int) then (if y4 = 0 then (if y3.length + (l0.getD y4.toNat []).length ≤ 1073741824 then vector_fold_l0 l0 k (y3 ++ (l0.getD y4.toNat [])) (IntKind.i64.wrap (y4 + 1)) else none) else (if ¬ ((l0.getD y4.toNat []).length : Int) = (y3.length : Int) then some (Sum.inl ([] : List Int)) else ((vector_fold_l1 l0 y3 y4 k 0 y3).bind fun s14 => vector_fold_l0 l0 k s14 (IntKind.i64.wrap (y4 + 1))))) else none) else some (Sum.inr y3))
def vector_fold (k : Nat) (l0 : List (List Int)) : Option (List Int) := ((vector_fold_l0 l0 k ([] : List Int) 0).bind fun os1 => match os1 with | Sum.inl r => some r | Sum.inr s1 => some s1)
set_option maxHeartbeats 4000000 in
theorem vector_fold_calls {B : World} {G : GMap} {Γ : List Chunk} {W : World} (k : Nat) (l0 : List (List Int)) (Al0 : Option Addr) (cl0 : Nat) (Hl0 : Rd (kSlice (kInt .i64)) G Al0 cl0 l0) (r : List Int) (h : vector_fold k l0 = some r) (hI : Inv B G (Γ) W) :
    Calls Tryz.prog 46 [.slice Al0 l0.length cl0, .func (.func 47) #[] #[]].toArray W (Ret B (fun v G' Γ' => ∃ (AR : Option Addr), ∃ (cR : Nat), ∃ (CR : Chunk), v = .slice AR r.length cR ∧ Ow (kInt .i64) G' AR cR r CR ∧ G = G' ∧ CR :: Γ = Γ')) := by
  refine calls_WP (Γ := Γ) (G := G) (B := B) Tryz.func46 rfl (by kernel_rfl) ?_ hI
  clear hI
  unfold vector_fold at h
  refine WP.seqP [0, 1] (L' := [(0, .slice Al0 l0.length cl0), (1, .func (.func 47) #[] #[])]) (by kernel_rfl) ?_
  refine WP.seqP [0, 1, 5] (L' := [(0, .slice Al0 l0.length cl0), (1, .func (.func 47) #[] #[]), (5, .slice none 0 0)]) (by kernel_rfl) ?_
  refine WP.seq ?_
  refine WP.seqP [1, 5, 9, 10, 11] (L' := [(1, .func (.func 47) #[] #[]), (5, .slice none 0 0), (9, .slice Al0 l0.length cl0), (10, .int .i64 (l0.length : Int)), (11, .int .i64 0)]) (by kernel_rfl) ?_
  rw [Option.bind_eq_some_iff] at h
  obtain ⟨os1, h, hk2⟩ := h
  refine WP.cutQ (fun L' G' Γ' => ∃ s1 : (List Int), Sum.inr s1 = os1 ∧ ∃ (As1 : Option Addr), ∃ (cs1 : Nat), ∃ (Cs1 : Chunk), L' = [(5, .slice As1 s1.length cs1)] ∧ G = G' ∧ Cs1 :: Γ = Γ' ∧ Ow (kInt .i64) G As1 cs1 s1 Cs1) ?_ ?_
  · skip
    refine WP.block ?_
    refine WP.addNil ?_
    refine WP.pick [1, 5, 9, 10, 11] ?_
    refine WP.loopF (fun kn5 L' G' Γ' => ∃ (y3 : List Int), ∃ (y4 : Int), vector_fold_l0 l0 kn5 y3 y4 = some os1 ∧ ∃ (Ay3 : Option Addr), ∃ (cy3 : Nat), ∃ (Cy3 : Chunk), L' = [(1, .func (.func 47) #[] #[]), (5, .slice Ay3 y3.length cy3), (9, .slice Al0 l0.length cl0), (10, .int .i64 (l0.length : Int)), (11, .int .i64 y4)] ∧ G = G' ∧ Cy3 :: Γ = Γ' ∧ Ow (kInt .i64) G Ay3 cy3 y3 Cy3) ?_ k ⟨([] : List Int), 0, h, none, 0, [], rfl, rfl, rfl, (Ow.nil (kInt .i64) _)⟩
    clear h
    rintro kn6 _ _ _ ⟨y3, y4, h, Ay3, cy3, Cy3, rfl, rfl, rfl, Hy3⟩
    cases kn6 with
    | zero => exact absurd h (by simp [vector_fold_l0])
    | succ kn6 =>
      simp only [vector_fold_l0] at h
      refine WP.seqP [1, 5, 9, 10, 11, 12] (L' := [(1, .func (.func 47) #[] #[]), (5, .slice Ay3 y3.length cy3), (9, .slice Al0 l0.length cl0), (10, .int .i64 (l0.length : Int)), (11, .int .i64 y4), (12, .bool (decide (y4 < (l0.length : Int))))]) (by kernel_rfl) ?_
      refine WP.seq ?_
      refine WP.cond (b := decide (y4 < (l0.length : Int))) (by kernel_rfl) (fun hc => ?_) (fun hc => ?_)
      · replace hc := of_decide_eq_true hc
        rw [if_pos hc] at h
        have hc7 := hc
        clear hc
        refine WP.skip ?_
        refine QP.next ?_
        refine WP.pick [1, 5, 9, 10, 11] ?_
        refine WP.seq ?_
        refine WP.block ?_
        refine WP.seqR ?_
        refine WL.pure 0 1 [1, 5, 9, 10, 11, 13] (L' := [(1, .func (.func 47) #[] #[]), (5, .slice Ay3 y3.length cy3), (9, .slice Al0 l0.length cl0), (10, .int .i64 (l0.length : Int)), (11, .int .i64 y4), (13, .int .i64 y4)]) (by kernel_rfl) (by decide) ?_
        by_cases hb8 : 0 ≤ y4 ∧ y4 < (l0.length : Int)
        case neg => rw [if_neg hb8] at h; cases h
        rw [if_pos hb8] at h
        refine WL.tell (op := .indexAddr 88 (.tmp 9) (.tmp 11)) (ty := 0) (d := some 14) (g := none) (by kernel_rfl) (by kernel_rfl) (by kernel_rfl) (Tells.indexAddr (A := Al0) (n := l0.length) (c := cl0) (k := .i64) (j := y4) (by kernel_rfl) (by kernel_rfl) (Hl0.isSome hb8.1 hb8.2) hb8.1 hb8.2 sl88) ?_
        refine WL.tellE (op := .load 25 (.tmp 14)) (ty := 25) (d := some 15) (g := none) (by kernel_rfl) (by kernel_rfl) (by kernel_rfl) (Hl0.load (agg := false) hb8.1 hb8.2 [] ag25 (fun _ => rfl) (by kernel_rfl)) ?_
        rintro _ ⟨Ae9, ce9, rfl, He9⟩
        refine WL.restQ 3 [1, 5, 6, 7, 9, 10, 11] (L' := [(1, .func (.func 47) #[] #[]), (5, .slice Ay3 y3.length cy3), (6, .int .i64 y4), (7, .slice Ae9 (l0.getD y4.toNat []).length ce9), (9, .slice Al0 l0.length cl0), (10, .int .i64 (l0.length : Int)), (11, .int .i64 y4)]) (by kernel_rfl) ?_
        refine WP.seq ?_
        refine WP.seqP [1, 5, 7, 9, 10, 11, 17] (L' := [(1, .func (.func 47) #[] #[]), (5, .slice Ay3 y3.length cy3), (7, .slice Ae9 (l0.getD y4.toNat []).length ce9), (9, .slice Al0 l0.length cl0), (10, .int .i64 (l0.length : Int)), (11, .int .i64 y4), (17, .bool (y4 == 0))]) (by kernel_rfl) ?_
        refine WP.cond (b := (y4 == 0)) (by kernel_rfl) (fun hc => ?_) (fun hc => ?_)
        · replace hc := eq_of_beq hc
          rw [if_pos hc] at h
          have hc10 := hc
          clear hc
          refine WP.seqR ?_
          refine WL.pure 0 2 [1, 5, 9, 10, 11, 18, 19] (L' := [(1, .func (.func 47) #[] #[]), (5, .slice Ay3 y3.length cy3), (9, .slice Al0 l0.length cl0), (10, .int .i64 (l0.length : Int)), (11, .int .i64 y4), (18, .slice Ay3 y3.length cy3), (19, .slice Ae9 (l0.getD y4.toNat []).length ce9)]) (by kernel_rfl) (by decide) ?_
          by_cases hb11 : y3.length + (l0.getD y4.toNat []).length ≤ 1073741824
          case neg => rw [if_neg hb11] at h; cases h
          rw [if_pos hb11] at h
          refine WL.op (op := .call { callee := (.builtin .append), args := #[(.tmp 18), (.tmp 19)], argTypes := #[25, 25] }) (ty := 25) (d := some 20) (g := none) (by kernel_rfl) (by kernel_rfl) (by kernel_rfl) (Ow.append (ys := (l0.getD y4.toNat [])) (v := .slice Ae9 (l0.getD y4.toNat []).length ce9) Hy3 (i := 0) rfl (by kernel_rfl) (by kernel_rfl) He9.src sl25 ze3 nt25 (by decide) hb11) ?_
          rintro _ _ _ ⟨rfl, AN12, cN12, CN12, rfl, HN12, rfl⟩
          refine WL.restQ 3 [1, 5, 9, 10, 11] (L' := [(1, .func (.func 47) #[] #[]), (5, .slice AN12 (y3 ++ (l0.getD y4.toNat [])).length cN12), (9, .slice Al0 l0.length cl0), (10, .int .i64 (l0.length : Int)), (11, .int .i64 y4)]) (by kernel_rfl) ?_
          refine WP.exit ?_
          refine QP.thenE ?_
          refine QP.blockE ?_
          refine QP.next ?_
          refine WP.pick [1, 5, 9, 10, 11] ?_
          refine WP.regionP [1, 5, 9, 10, 11] (L' := [(1, .func (.func 47) #[] #[]), (5, .slice AN12 (y3 ++ (l0.getD y4.toNat [])).length cN12), (9, .slice Al0 l0.length cl0), (10, .int .i64 (l0.length : Int)), (11, .int .i64 (IntKind.i64.wrap (y4 + 1)))]) (by kernel_rfl) ?_
          refine QP.pick [1, 5, 9, 10, 11] ?_
          exact QP.meet ⟨kn6, Nat.lt_succ_self _, (y3 ++ (l0.getD y4.toNat [])), (IntKind.i64.wrap (y4 + 1)), h, AN12, cN12, CN12, rfl, rfl, rfl, HN12⟩
        · replace hc := ne_of_beq_false hc
          rw [if_neg hc] at h
          have hc10 := hc
          clear hc
          refine WP.skip ?_
          refine QP.next ?_
          refine WP.pick [1, 5, 7, 9, 10, 11] ?_
          refine WP.seq ?_
          refine WP.seqP [1, 5, 7, 9, 10, 11, 25] (L' := [(1, .func (.func 47) #[] #[]), (5, .slice Ay3 y3.length cy3), (7, .slice Ae9 (l0.getD y4.toNat []).length ce9), (9, .slice Al0 l0.length cl0), (10, .int .i64 (l0.length : Int)), (11, .int .i64 y4), (25, .bool (((l0.getD y4.toNat []).length : Int) != (y3.length : Int)))]) (by kernel_rfl) ?_
          refine WP.cond (b := (((l0.getD y4.toNat []).length : Int) != (y3.length : Int))) (by kernel_rfl) (fun hc => ?_) (fun hc => ?_)
          · replace hc := (bne_iff_ne.1 hc)
            rw [if_pos hc] at h
            have hc13 := hc
            clear hc
            refine WP.seqP [4] (L' := [(4, .slice none 0 0)]) (by kernel_rfl) ?_
            refine WP.dropAt 0 ?_
            refine WP.ret ?_
            refine QP.thenR ?_
            refine QP.blockR ?_
            refine QP.thenR ?_
            refine QP.thenR ?_
            refine QP.blockR ?_
            refine QP.thenR ?_
            refine QP.thenR ?_
            obtain rfl := Option.some.inj h
            obtain rfl := Option.some.inj (show some _ = some _ from hk2)
            refine QP.addNil ?_
            exact QP.returned [4] [.slice none ([] : List Int).length 0] _ (by kernel_rfl) (by kernel_rfl) (by kernel_rfl) (fun W hI => ⟨_, _, _, rfl, ⟨none, 0, [], rfl, (Ow.nil (kInt .i64) _), rfl, rfl⟩, hI⟩)
          · replace hc := (not_not_intro (bne_eq_false_iff_eq.1 hc))
            rw [if_neg hc] at h
            have hc13 := hc
            clear hc
            refine WP.skip ?_
            refine QP.next ?_
            refine WP.pick [1, 5, 7, 9, 10, 11] ?_
            refine WP.seqP [1, 5, 7, 9, 10, 11, 27, 28] (L' := [(1, .func (.func 47) #[] #[]), (5, .slice Ay3 y3.length cy3), (7, .slice Ae9 (l0.getD y4.toNat []).length ce9), (9, .slice Al0 l0.length cl0), (10, .int .i64 (l0.length : Int)), (11, .int .i64 y4), (27, .int .i64 (y3.length : Int)), (28, .int .i64 0)]) (by kernel_rfl) ?_
            rw [Option.bind_eq_some_iff] at h
            obtain ⟨os14, h, hk15⟩ := h
            refine WP.cutQ (fun L' G' Γ' => ∃ s14 : (List Int), s14 = os14 ∧ ∃ (As14 : Option Addr), ∃ (cs14 : Nat), ∃ (Cs14 : Chunk), L' = [(1, .func (.func 47) #[] #[]), (5, .slice As14 s14.length cs14), (9, .slice Al0 l0.length cl0), (10, .int .i64 (l0.length : Int)), (11, .int .i64 y4)] ∧ G = G' ∧ Cs14 :: Γ = Γ' ∧ Ow (kInt .i64) G As14 cs14 s14 Cs14) ?_ ?_
            · clear hk15
              refine WP.block ?_
              refine WP.pick [1, 5, 7, 9, 10, 11, 27, 28] ?_
              refine WP.loopF (fun kn18 L' G' Γ' => ∃ (y16 : Int), ∃ (y17 : List Int), vector_fold_l1 l0 y3 y4 kn18 y16 y17 = some os14 ∧ ∃ (Ay17 : Option Addr), ∃ (cy17 : Nat), ∃ (Cy17 : Chunk), L' = [(1, .func (.func 47) #[] #[]), (5, .slice Ay17 y17.length cy17), (7, .slice Ae9 (l0.getD y4.toNat []).length ce9), (9, .slice Al0 l0.length cl0), (10, .int .i64 (l0.length : Int)), (11, .int .i64 y4), (27, .int .i64 (y3.length : Int)), (28, .int .i64 y16)] ∧ G = G' ∧ Cy17 :: Γ = Γ' ∧ Ow (kInt .i64) G Ay17 cy17 y17 Cy17) ?_ kn6 ⟨0, y3, h, Ay3, cy3, Cy3, rfl, rfl, rfl, Hy3⟩
              clear h
              rintro kn19 _ _ _ ⟨y16, y17, h, Ay17, cy17, Cy17, rfl, rfl, rfl, Hy17⟩
              cases kn19 with
              | zero => exact absurd h (by simp [vector_fold_l1])
              | succ kn19 =>
                simp only [vector_fold_l1] at h
                refine WP.seqP [1, 5, 7, 9, 10, 11, 27, 28, 29] (L' := [(1, .func (.func 47) #[] #[]), (5, .slice Ay17 y17.length cy17), (7, .slice Ae9 (l0.getD y4.toNat []).length ce9), (9, .slice Al0 l0.length cl0), (10, .int .i64 (l0.length : Int)), (11, .int .i64 y4), (27, .int .i64 (y3.length : Int)), (28, .int .i64 y16), (29, .bool (decide (y16 < (y3.length : Int))))]) (by kernel_rfl) ?_
                refine WP.seq ?_
                refine WP.cond (b := decide (y16 < (y3.length : Int))) (by kernel_rfl) (fun hc => ?_) (fun hc => ?_)
                · replace hc := of_decide_eq_true hc
                  rw [if_pos hc] at h
                  have hc20 := hc
                  clear hc
                  refine WP.skip ?_
                  refine QP.next ?_
                  refine WP.pick [1, 5, 7, 9, 10, 11, 27, 28] ?_
                  refine WP.seq ?_
                  refine WP.block ?_
                  refine WP.seqP [1, 5, 7, 8, 9, 10, 11, 27, 28] (L' := [(1, .func (.func 47) #[] #[]), (5, .slice Ay17 y17.length cy17), (7, .slice Ae9 (l0.getD y4.toNat []).length ce9), (8, .int .i64 y16), (9, .slice Al0 l0.length cl0), (10, .int .i64 (l0.length : Int)), (11, .int .i64 y4), (27, .int .i64 (y3.length : Int)), (28, .int .i64 y16)]) (by kernel_rfl) ?_
                  skip
                  refine WP.any (N := 14) (S := [⟨some 31, [5], []⟩, ⟨some 32, [8], []⟩, ⟨some 33, [1], []⟩, ⟨some 34, [5], []⟩, ⟨some 35, [8], []⟩, ⟨some 36, [34, 35], [3, 4]⟩, ⟨some 37, [36], [5]⟩, ⟨some 38, [7], []⟩, ⟨some 39, [8], []⟩, ⟨some 40, [38, 39], [7, 8]⟩, ⟨some 41, [40], [9]⟩, ⟨some 42, [33, 37, 41], [2, 6, 10]⟩, ⟨some 43, [31, 32], [0, 1, 2, 3, 4, 5, 6, 7, 8, 9, 10, 11]⟩, ⟨none, [42, 43], [0, 1, 2, 3, 4, 5, 6, 7, 8, 9, 10, 11, 12]⟩]) (kw := 13) (G0 := G) (Γ0 := Cy17 :: Γ) mo (by kernel_rfl) (fun hS => ?_)
                  refine WA.pure [0, 1, 2, 3, 4, 7, 8] [1, 5, 7, 9, 10, 11, 27, 28, 31, 32, 33, 34, 35, 38, 39] (m := 7) (b' := 415) (L' := [(1, .func (.func 47) #[] #[]), (5, .slice Ay17 y17.length cy17), (7, .slice Ae9 (l0.getD y4.toNat []).length ce9), (9, .slice Al0 l0.length cl0), (10, .int .i64 (l0.length : Int)), (11, .int .i64 y4), (27, .int .i64 (y3.length : Int)), (28, .int .i64 y16), (31, .slice Ay17 y17.length cy17), (32, .int .i64 y16), (33, .func (.func 47) #[] #[]), (34, .slice Ay17 y17.length cy17), (35, .int .i64 y16), (38, .slice Ae9 (l0.getD y4.toNat []).length ce9), (39, .int .i64 y16)]) (by kernel_rfl) (NoPanic.block (NoPanic.then (NoPanic.then (NoPanic.block (NoPanic.then (NoPanic.block (NoPanic.then (NoPanic.then (NoPanic.block (NoPanic.then (NoPanic.then (NoPanic.body)))))))))))) Under.refl hS (by kernel_rfl) ?_
                  by_cases hb21 : 0 ≤ y16 ∧ y16 < (y17.length : Int)
                  case neg => rw [if_neg hb21] at h; cases h
                  rw [if_pos hb21] at h
                  refine WA.tellD [13] (i := 5) (m := 6) (b' := 447) (by kernel_rfl) (NoPanic.block (NoPanic.then (NoPanic.then (NoPanic.block (NoPanic.then (NoPanic.block (NoPanic.then (NoPanic.then (NoPanic.block (NoPanic.then (NoPanic.then (NoPanic.body)))))))))))) Under.refl hS (by kernel_rfl) (op := .indexAddr 25 (.tmp 34) (.tmp 35)) (ty := 0) (d := some 36) (g := none) (by kernel_rfl) (by kernel_rfl) (by kernel_rfl) (Tells.indexAddr (A := Ay17) (n := y17.length) (c := cy17) (k := .i64) (j := y16) (by kernel_rfl) (by kernel_rfl) (Hy17.isSome hb21.1 hb21.2) hb21.1 hb21.2 sl25) ?_
                  refine WA.tellDE [13] (i := 6) (m := 5) (b' := 511) (by kernel_rfl) (NoPanic.block (NoPanic.then (NoPanic.then (NoPanic.block (NoPanic.then (NoPanic.block (NoPanic.then (NoPanic.then (NoPanic.block (NoPanic.then (NoPanic.then (NoPanic.body)))))))))))) Under.refl hS (by kernel_rfl) (op := .load 3 (.tmp 36)) (ty := 3) (d := some 37) (g := none) (by kernel_rfl) (by kernel_rfl) (by kernel_rfl) (Hy17.load (i := 0) rfl (agg := false) hb21.1 hb21.2 0 ag3 (fun _ => rfl) (by kernel_rfl)) ?_
                  rintro _ rfl
                  by_cases hb22 : 0 ≤ y16 ∧ y16 < ((l0.getD y4.toNat []).length : Int)
                  case neg => rw [if_neg hb22] at h; cases h
                  rw [if_pos hb22] at h
                  refine WA.tellD [13] (i := 9) (m := 4) (b' := 1023) (by kernel_rfl) (NoPanic.block (NoPanic.then (NoPanic.then (NoPanic.block (NoPanic.then (NoPanic.block (NoPanic.then (NoPanic.then (NoPanic.block (NoPanic.then (NoPanic.then (NoPanic.body)))))))))))) Under.refl hS (by kernel_rfl) (op := .indexAddr 25 (.tmp 38) (.tmp 39)) (ty := 0) (d := some 40) (g := none) (by kernel_rfl) (by kernel_rfl) (by kernel_rfl) (Tells.indexAddr (A := Ae9) (n := (l0.getD y4.toNat []).length) (c := ce9) (k := .i64) (j := y16) (by kernel_rfl) (by kernel_rfl) (He9.isSome hb22.1 hb22.2) hb22.1 hb22.2 sl25) ?_
                  refine WA.tellDE [13] (i := 10) (m := 3) (b' := 2047) (by kernel_rfl) (NoPanic.block (NoPanic.then (NoPanic.then (NoPanic.block (NoPanic.then (NoPanic.block (NoPanic.then (NoPanic.then (NoPanic.block (NoPanic.then (NoPanic.then (NoPanic.body)))))))))))) Under.refl hS (by kernel_rfl) (op := .load 3 (.tmp 40)) (ty := 3) (d := some 41) (g := none) (by kernel_rfl) (by kernel_rfl) (by kernel_rfl) (He9.load (agg := false) hb22.1 hb22.2 0 ag3 (fun _ => rfl) (by kernel_rfl)) ?_
                  rintro _ rfl
                  rw [Option.bind_eq_some_iff] at h
                  obtain ⟨t23, ht24, h⟩ := h
                  refine WA.op (i := 11) (m := 2) (b' := 4095) (by kernel_rfl) hS (by kernel_rfl) (op := .call { callee := (.value (.tmp 33)), args := #[(.tmp 37), (.tmp 41)], argTypes := #[3, 3] }) (ty := 3) (d := some 42) (g := none) (by kernel_rfl) (by kernel_rfl) (by kernel_rfl) (Does.call (f := 47) (args := [.int .i64 (y17.getD y16.toNat 0), .int .i64 ((l0.getD y4.toNat []).getD y16.toNat 0)]) (by kernel_rfl) (fun W hI => (vector_Join_1_calls (y17.getD y16.toNat 0) ((l0.getD y4.toNat []).getD y16.toNat 0)  t23 ht24 hI))) ?_
                  rintro _ _ _ ⟨rfl, rfl, rfl⟩
                  refine ⟨_, _, Under.refl, Under.refl, ?_⟩
                  by_cases hb27 : 0 ≤ y16 ∧ y16 < (y17.length : Int)
                  case neg => rw [if_neg hb27] at h; cases h
                  rw [if_pos hb27] at h
                  refine WA.tellD [13] (i := 12) (m := 1) (b' := 8191) (by kernel_rfl) (NoPanic.block (NoPanic.then (NoPanic.then (NoPanic.block (NoPanic.then (NoPanic.block (NoPanic.then (NoPanic.then (NoPanic.block (NoPanic.then (NoPanic.then (NoPanic.body)))))))))))) Under.refl hS (by kernel_rfl) (op := .indexAddr 25 (.tmp 31) (.tmp 32)) (ty := 0) (d := some 43) (g := none) (by kernel_rfl) (by kernel_rfl) (by kernel_rfl) (Tells.indexAddr (A := Ay17) (n := y17.length) (c := cy17) (k := .i64) (j := y16) (by kernel_rfl) (by kernel_rfl) (Hy17.isSome hb27.1 hb27.2) hb27.1 hb27.2 sl25) ?_
                  refine WA.opK (i := 13) (kw' := 14) (m := 0) (b' := 16383) (by kernel_rfl) rfl hS (by kernel_rfl) (op := .store 3 (.tmp 43) (.tmp 42)) (ty := 0) (d := none) (g := none) (by kernel_rfl) (by kernel_rfl) (by kernel_rfl) (Ow.store Hy17 (i := 0) rfl hb27.1 hb27.2 (z := t23) (v := .int .i64 t23) (by kernel_rfl) (by kernel_rfl) sz3 (by exact rfl)) ?_
                  rintro _ _ _ ⟨rfl, rfl, C28, Ho29, rfl⟩
                  refine ⟨_, _, Under.refl, ?_⟩
                  refine WA.reput 5 (v := .slice Ay17 y17.length cy17) (v' := .slice Ay17 (y17.set y16.toNat t23).length cy17) (by kernel_rfl) (by simp only [List.length_set]) ?_
                  refine WA.done hS (by kernel_rfl) ?_
                  refine QP.pick [1, 5, 7, 9, 10, 11, 27, 28] ?_
                  refine QP.blockN ?_
                  refine QP.next ?_
                  refine WP.pick [1, 5, 7, 9, 10, 11, 27, 28] ?_
                  refine WP.regionP [1, 5, 7, 9, 10, 11, 27, 28] (L' := [(1, .func (.func 47) #[] #[]), (5, .slice Ay17 (y17.set y16.toNat t23).length cy17), (7, .slice Ae9 (l0.getD y4.toNat []).length ce9), (9, .slice Al0 l0.length cl0), (10, .int .i64 (l0.length : Int)), (11, .int .i64 y4), (27, .int .i64 (y3.length : Int)), (28, .int .i64 (IntKind.i64.wrap (y16 + 1)))]) (by kernel_rfl) ?_
                  refine QP.pick [1, 5, 7, 9, 10, 11, 27, 28] ?_
                  exact QP.meet ⟨kn19, Nat.lt_succ_self _, (IntKind.i64.wrap (y16 + 1)), (y17.set y16.toNat t23), h, Ay17, cy17, C28, rfl, rfl, rfl, Ho29⟩
                · replace hc := of_decide_eq_false hc
                  rw [if_neg hc] at h
                  have hc20 := hc
                  clear hc
                  refine WP.exit ?_
                  refine QP.thenE ?_
                  refine QP.thenE ?_
                  refine QP.blockE ?_
                  refine QP.pick [1, 5, 9, 10, 11] ?_
                  exact QP.meet ⟨_, Option.some.inj h, Ay17, cy17, Cy17, rfl, rfl, rfl, Hy17⟩
            · rintro _ _ _ ⟨s14, rfl, As14, cs14, Cs14, rfl, rfl, rfl, Hs14⟩
              clear h
              replace h := hk15
              refine QP.blockN ?_
              refine QP.next ?_
              refine WP.pick [1, 5, 9, 10, 11] ?_
              refine WP.regionP [1, 5, 9, 10, 11] (L' := [(1, .func (.func 47) #[] #[]), (5, .slice As14 s14.length cs14), (9, .slice Al0 l0.length cl0), (10, .int .i64 (l0.length : Int)), (11, .int .i64 (IntKind.i64.wrap (y4 + 1)))]) (by kernel_rfl) ?_
              refine QP.pick [1, 5, 9, 10, 11] ?_
              exact QP.meet ⟨kn6, Nat.lt_succ_self _, s14, (IntKind.i64.wrap (y4 + 1)), h, As14, cs14, Cs14, rfl, rfl, rfl, Hs14⟩
      · replace hc := of_decide_eq_false hc
        rw [if_neg hc] at h
        have hc7 := hc
        clear hc
        refine WP.exit ?_
        refine QP.thenE ?_
        refine QP.thenE ?_
        refine QP.blockE ?_
        refine QP.pick [5] ?_
        exact QP.meet ⟨_, Option.some.inj h, Ay3, cy3, Cy3, rfl, rfl, rfl, Hy3⟩
  · rintro _ _ _ ⟨s1, rfl, As1, cs1, Cs1, rfl, rfl, rfl, Hs1⟩
    clear h
    replace h := hk2
    dsimp only at h
    refine QP.next ?_
    refine WP.pick [5] ?_
    refine WP.seqP [4] (L' := [(4, .slice As1 s1.length cs1)]) (by kernel_rfl) ?_
    refine WP.ret ?_
    obtain rfl := Option.some.inj h
    exact QP.returned [4] [.slice As1 s1.length cs1] _ (by kernel_rfl) (by kernel_rfl) (by kernel_rfl) (fun W hI => ⟨_, _, _, rfl, ⟨As1, cs1, Cs1, rfl, Hs1, rfl, rfl⟩, hI⟩)

/-! ### grapevine/vector.Join: function 24 -/
def vector_Join (k : Nat) (l0 : List (List Int)) : Option (List Int) := ((vector_fold k l0).bind fun t1 => some t1)
set_option maxHeartbeats 4000000 in
theorem vector_Join_calls {B : World} {G : GMap} {Γ : List Chunk} {W : World} (k : Nat) (l0 : List (List Int)) (Al0 : Option Addr) (cl0 : Nat) (Hl0 : Rd (kSlice (kInt .i64)) G Al0 cl0 l0) (r : List Int) (h : vector_Join k l0 = some r) (hI : Inv B G (Γ) W) :
    Calls Tryz.prog 24 [.slice Al0 l0.length cl0].toArray W (Ret B (fun v G' Γ' => ∃ (AR : Option Addr), ∃ (cR : Nat), ∃ (CR : Chunk), v = .slice AR r.length cR ∧ Ow (kInt .i64) G' AR cR r CR ∧ G = G' ∧ CR :: Γ = Γ')) := by
  refine calls_WP (Γ := Γ) (G := G) (B := B) Tryz.func24 rfl (by kernel_rfl) ?_ hI
  clear hI
  unfold vector_Join at h
  refine WP.seqP [0] (L' := [(0, .slice Al0 l0.length cl0)]) (by kernel_rfl) ?_
  refine WP.seqR ?_
  refine WL.pure 0 1 [3] (L' := [(3, .slice Al0 l0.length cl0)]) (by kernel_rfl) (by decide) ?_
  rw [Option.bind_eq_some_iff] at h
  obtain ⟨t1, ht2, h⟩ := h
  refine WL.op (op := .call { callee := (.value (.func 46)), args := #[(.tmp 3), (.func 47)], argTypes := #[88, 90] }) (ty := 25) (d := some 4) (g := none) (by kernel_rfl) (by kernel_rfl) (by kernel_rfl) (Does.call (f := 46) (args := [.slice Al0 l0.length cl0, .func (.func 47) #[] #[]]) (by kernel_rfl) (fun W hI => (vector_fold_calls k l0 Al0 cl0 Hl0 t1 ht2 hI))) ?_
  rintro _ _ _ ⟨AR3, cR3, CR3, rfl, HR3, rfl, rfl⟩
  refine WL.restQ 2 [2] (L' := [(2, .slice AR3 t1.length cR3)]) (by kernel_rfl) ?_
  refine WP.ret ?_
  obtain rfl := Option.some.inj h
  exact QP.returned [2] [.slice AR3 t1.length cR3] _ (by kernel_rfl) (by kernel_rfl) (by kernel_rfl) (fun W hI => ⟨_, _, _, rfl, ⟨AR3, cR3, CR3, rfl, HR3, rfl, rfl⟩, hI⟩)

/-! ### (*grapevine/state.State).Raise$1: function 44 -/
def state_State_Raise_1 (a0 : T34) (a1 : T38) (a2n : T59) : Option Bool := (if 0 ≤ a0.f0 ∧ a0.f0 < (a2n.f1.length : Int) then some (decide (a0.f1 ≤ (a2n.f1.getD a0.f0.toNat 0))) else none)
set_option maxHeartbeats 4000000 in
theorem state_State_Raise_1_calls {B : World} {G : GMap} {Γ : List Chunk} {W : World} (a0 : T34) (a1 : T38) (a2n : T59) (bp2 : Nat) (bp2n : Nat) (Aa2n_f0 : Option Addr) (ca2n_f0 : Nat) (Ca2n_f0 : Chunk) (Ha2n_f0 : Ow (kInt .i64) G Aa2n_f0 ca2n_f0 a2n.f0 Ca2n_f0) (Aa2n_f1 : Option Addr) (ca2n_f1 : Nat) (Ca2n_f1 : Chunk) (Ha2n_f1 : Ow (kInt .i64) G Aa2n_f1 ca2n_f1 a2n.f1 Ca2n_f1) (Aa2n_f2 : Option Addr) (ca2n_f2 : Nat) (r : Bool) (h : state_State_Raise_1 a0 a1 a2n = some r) (hI : Inv B G ([(bp2, .cells #[.pointer (some ⟨bp2n, 0, none⟩)] 22 (0, 0))] :: [(bp2n, .cells #[.slice Aa2n_f0 a2n.f0.length ca2n_f0, .slice Aa2n_f1 a2n.f1.length ca2n_f1, mpv Aa2n_f2] 59 (0, 0))] :: Ca2n_f0 :: Ca2n_f1 :: Γ) W) :
    Calls Tryz.prog 44 [.agg #[.int .i64 a0.f0, .int .i64 a0.f1], .agg #[.int .i64 a1.f0, .int .i64 a1.f1, .int .i64 a1.f2, .int .i64 a1.f3, .string a1.f4], .pointer (some ⟨bp2, 0, none⟩)].toArray W (Ret B (fun v G' Γ' => v = .bool r ∧ G = G' ∧ [(bp2, .cells #[.pointer (some ⟨bp2n, 0, none⟩)] 22 (0, 0))] :: [(bp2n, .cells #[.slice Aa2n_f0 a2n.f0.length ca2n_f0, .slice Aa2n_f1 a2n.f1.length ca2n_f1, mpv Aa2n_f2] 59 (0, 0))] :: Ca2n_f0 :: Ca2n_f1 :: Γ = Γ')) := by
  refine calls_WP (Γ := [(bp2, .cells #[.pointer (some ⟨bp2n, 0, none⟩)] 22 (0, 0))] :: [(bp2n, .cells #[.slice Aa2n_f0 a2n.f0.length ca2n_f0, .slice Aa2n_f1 a2n.f1.length ca2n_f1, mpv Aa2n_f2] 59 (0, 0))] :: Ca2n_f0 :: Ca2n_f1 :: Γ) (G := G) (B := B) Tryz.func44 rfl (by kernel_rfl) ?_ hI
  clear hI
  unfold state_State_Raise_1 at h
  refine WP.seqR ?_
  refine WL.op (op := .box 34 (.tmp 0)) (ty := 0) (d := some 3) (g := none) (by kernel_rfl) (by kernel_rfl) (by kernel_rfl) (Does.new (o := .cells #[.int .i64 a0.f0, .int .i64 a0.f1] 34 (0, 0)) (v := fun r => .pointer (some ⟨r, 0, none⟩)) (fun r => by kernel_rfl)) ?_
  rintro _ _ _ ⟨b1, rfl, rfl, rfl⟩
  refine WL.op (op := .box 38 (.tmp 1)) (ty := 0) (d := some 4) (g := none) (by kernel_rfl) (by kernel_rfl) (by kernel_rfl) (Does.new (o := .cells #[.int .i64 a1.f0, .int .i64 a1.f1, .int .i64 a1.f2, .int .i64 a1.f3, .string a1.f4] 38 (0, 0)) (v := fun r => .pointer (some ⟨r, 0, none⟩)) (fun r => by kernel_rfl)) ?_
  rintro _ _ _ ⟨b2, rfl, rfl, rfl⟩
  refine WL.restQ 2 [2, 3] (L' := [(2, .pointer (some ⟨bp2, 0, none⟩)), (3, .pointer (some ⟨b1, 0, none⟩))]) (by kernel_rfl) ?_
  refine WP.dropAt 0 ?_
  refine WP.seq ?_
  refine WP.any (N := 12) (S := [⟨some 6, [3], []⟩, ⟨some 7, [6], [0]⟩, ⟨some 8, [2], []⟩, ⟨some 9, [8], [2]⟩, ⟨some 10, [9], [3]⟩, ⟨some 11, [10], [4]⟩, ⟨some 12, [3], []⟩, ⟨some 13, [12], [6]⟩, ⟨some 14, [11, 13], [5, 7]⟩, ⟨some 15, [14], [8]⟩, ⟨some 16, [7, 15], [1, 9]⟩, ⟨some 5, [16], [0, 1, 2, 3, 4, 5, 6, 7, 8, 9, 10]⟩]) (kw := 12) (G0 := G) (Γ0 := [(b1, .cells #[.int .i64 a0.f0, .int .i64 a0.f1] 34 (0, 0))] :: [(bp2, .cells #[.pointer (some ⟨bp2n, 0, none⟩)] 22 (0, 0))] :: [(bp2n, .cells #[.slice Aa2n_f0 a2n.f0.length ca2n_f0, .slice Aa2n_f1 a2n.f1.length ca2n_f1, mpv Aa2n_f2] 59 (0, 0))] :: Ca2n_f0 :: Ca2n_f1 :: Γ) mo (by kernel_rfl) (fun hS => ?_)
  refine WA.pure [0, 6] [2, 6, 12] (m := 10) (b' := 65) (L' := [(2, .pointer (some ⟨bp2, 0, none⟩)), (6, .pointer (some ⟨b1, 1, none⟩)), (12, .pointer (some ⟨b1, 0, none⟩))]) (by kernel_rfl) (NoPanic.then (NoPanic.body)) Under.refl hS (by kernel_rfl) ?_
  refine WA.tellD [] (i := 1) (m := 9) (b' := 67) (by kernel_rfl) (NoPanic.then (NoPanic.body)) Under.refl hS (by kernel_rfl) (op := .load 3 (.tmp 6)) (ty := 3) (d := some 7) (g := none) (by kernel_rfl) (by kernel_rfl) (by kernel_rfl) (Tells.load_box (i := 0) (b := b1) (o := 1) (agg := false) (by rfl) ag3 (by kernel_rfl) (fun _ => rfl) (Nat.le_of_ble_eq_true rfl) (v := .int .i64 a0.f1) (by kernel_rfl)) ?_
  refine WA.tellD [] (i := 2) (m := 8) (b' := 71) (by kernel_rfl) (NoPanic.then (NoPanic.body)) Under.refl hS (by kernel_rfl) (op := .load 22 (.tmp 2)) (ty := 22) (d := some 8) (g := none) (by kernel_rfl) (by kernel_rfl) (by kernel_rfl) (Tells.load_box (i := 1) (b := bp2) (o := 0) (agg := false) (by rfl) ag22 (by kernel_rfl) (fun _ => rfl) (Nat.le_of_ble_eq_true rfl) (v := .pointer (some ⟨bp2n, 0, none⟩)) (by kernel_rfl)) ?_
  refine WA.pure [3, 4] [7, 10, 12] (m := 6) (b' := 95) (L' := [(7, .int .i64 a0.f1), (10, .pointer (some ⟨bp2n, 1, none⟩)), (12, .pointer (some ⟨b1, 0, none⟩))]) (by kernel_rfl) (NoPanic.then (NoPanic.body)) Under.refl hS (by kernel_rfl) ?_
  refine WA.tellD [] (i := 5) (m := 5) (b' := 127) (by kernel_rfl) (NoPanic.then (NoPanic.body)) Under.refl hS (by kernel_rfl) (op := .load 25 (.tmp 10)) (ty := 25) (d := some 11) (g := none) (by kernel_rfl) (by kernel_rfl) (by kernel_rfl) (Tells.load_box (i := 2) (b := bp2n) (o := 1) (agg := false) (by rfl) ag25 (by kernel_rfl) (fun _ => rfl) (Nat.le_of_ble_eq_true rfl) (v := .slice Aa2n_f1 a2n.f1.length ca2n_f1) (by kernel_rfl)) ?_
  refine WA.tellD [] (i := 7) (m := 4) (b' := 255) (by kernel_rfl) (NoPanic.then (NoPanic.body)) Under.refl hS (by kernel_rfl) (op := .load 3 (.tmp 12)) (ty := 3) (d := some 13) (g := none) (by kernel_rfl) (by kernel_rfl) (by kernel_rfl) (Tells.load_box (i := 0) (b := b1) (o := 0) (agg := false) (by rfl) ag3 (by kernel_rfl) (fun _ => rfl) (Nat.le_of_ble_eq_true rfl) (v := .int .i64 a0.f0) (by kernel_rfl)) ?_
  by_cases hb3 : 0 ≤ a0.f0 ∧ a0.f0 < (a2n.f1.length : Int)
  case neg => rw [if_neg hb3] at h; cases h
  rw [if_pos hb3] at h
  refine WA.tellD [] (i := 8) (m := 3) (b' := 511) (by kernel_rfl) (NoPanic.then (NoPanic.body)) Under.refl hS (by kernel_rfl) (op := .indexAddr 25 (.tmp 11) (.tmp 13)) (ty := 0) (d := some 14) (g := none) (by kernel_rfl) (by kernel_rfl) (by kernel_rfl) (Tells.indexAddr (A := Aa2n_f1) (n := a2n.f1.length) (c := ca2n_f1) (k := .i64) (j := a0.f0) (by kernel_rfl) (by kernel_rfl) (Ha2n_f1.isSome hb3.1 hb3.2) hb3.1 hb3.2 sl25) ?_
  refine WA.tellDE [] (i := 9) (m := 2) (b' := 1023) (by kernel_rfl) (NoPanic.then (NoPanic.body)) Under.refl hS (by kernel_rfl) (op := .load 3 (.tmp 14)) (ty := 3) (d := some 15) (g := none) (by kernel_rfl) (by kernel_rfl) (by kernel_rfl) (Ha2n_f1.load (i := 4) rfl (agg := false) hb3.1 hb3.2 0 ag3 (fun _ => rfl) (by kernel_rfl)) ?_
  rintro _ rfl
  refine WA.pure [10, 11] [5] (m := 0) (b' := 4095) (L' := [(5, .bool (decide (a0.f1 ≤ (a2n.f1.getD a0.f0.toNat 0))))]) (by kernel_rfl) (NoPanic.then (NoPanic.body)) Under.refl hS (by kernel_rfl) ?_
  refine WA.done hS (by kernel_rfl) ?_
  refine QP.pick [5] ?_
  refine QP.next ?_
  refine WP.dropAt 0 ?_
  refine WP.ret ?_
  obtain rfl := Option.some.inj h
  exact QP.returned [5] [.bool (decide (a0.f1 ≤ (a2n.f1.getD a0.f0.toNat 0)))] _ (by kernel_rfl) (by kernel_rfl) (by kernel_rfl) (fun W hI => ⟨_, _, _, rfl, ⟨rfl, rfl, rfl⟩, hI⟩)

/-! ### maps.DeleteFunc[map[grapevine/api.Key]grapevine/api.Record,grapevine/api.Key,grapevine/api.Record]: function 43 -/
noncomputable def maps_DeleteFunc_l0 (a1q0n : T59) : Nat → (List T34) → (T34 → Option T38) → Option (T34 → Option T38)
  | 0, _, _ => none
  | k + 1, y4, y5 => (pickF y5 y4 (some y5) (fun an8 => fun en8 => ((state_State_Raise_1 an8 en8 a1q0n).bind fun t11 => (if t11 = true then maps_DeleteFunc_l0 a1q0n k (an8 :: y4) (fdel y5 an8) else maps_DeleteFunc_l0 a1q0n k (an8 :: y4) y5))))
noncomputable def maps_DeleteFunc (k : Nat) (l0 : (T34 → Option T38)) (a1q0n : T59) : Option (T34 → Option T38) := ((maps_DeleteFunc_l0 a1q0n k ([] : List T34) l0).bind fun s2 => some s2)
set_option maxHeartbeats 4000000 in
theorem maps_DeleteFunc_calls {B : World} {G : GMap} {Γ : List Chunk} {W : World} (k : Nat) (l0 : (T34 → Option T38)) (a1q0n : T59) (Al0 : Option Addr) (cl0 : Nat) (Cl0 : Chunk) (Hl0 : MpF m57 G Al0 cl0 l0 Cl0) (bp1q0 : Nat) (bp1q0n : Nat) (Aa1q0n_f0 : Option Addr) (ca1q0n_f0 : Nat) (Ca1q0n_f0 : Chunk) (Ha1q0n_f0 : Ow (kInt .i64) G Aa1q0n_f0 ca1q0n_f0 a1q0n.f0 Ca1q0n_f0) (Aa1q0n_f1 : Option Addr) (ca1q0n_f1 : Nat) (Ca1q0n_f1 : Chunk) (Ha1q0n_f1 : Ow (kInt .i64) G Aa1q0n_f1 ca1q0n_f1 a1q0n.f1 Ca1q0n_f1) (Aa1q0n_f2 : Option Addr) (ca1q0n_f2 : Nat) (r : (T34 → Option T38)) (h : maps_DeleteFunc k l0 a1q0n = some r) (hI : Inv B G ([] :: Cl0 :: [(bp1q0, .cells #[.pointer (some ⟨bp1q0n, 0, none⟩)] 22 (0, 0))] :: [(bp1q0n, .cells #[.slice Aa1q0n_f0 a1q0n.f0.length ca1q0n_f0, .slice Aa1q0n_f1 a1q0n.f1.length ca1q0n_f1, mpv Aa1q0n_f2] 59 (0, 0))] :: Ca1q0n_f0 :: Ca1q0n_f1 :: Γ) W) :
    Calls Tryz.prog 43 [mpv Al0, .func (.func 44) #[] #[.pointer (some ⟨bp1q0, 0, none⟩)]].toArray W (Ret B (fun v G' Γ' => ∃ (CRp0 : Chunk), v = .tuple #[] ∧ MpF m57 G' Al0 cl0 r CRp0 ∧ G = G' ∧ [] :: CRp0 :: [(bp1q0, .cells #[.pointer (some ⟨bp1q0n, 0, none⟩)] 22 (0, 0))] :: [(bp1q0n, .cells #[.slice Aa1q0n_f0 a1q0n.f0.length ca1q0n_f0, .slice Aa1q0n_f1 a1q0n.f1.length ca1q0n_f1, mpv Aa1q0n_f2] 59 (0, 0))] :: Ca1q0n_f0 :: Ca1q0n_f1 :: Γ = Γ')) := by
  refine calls_WP (Γ := [] :: Cl0 :: [(bp1q0, .cells #[.pointer (some ⟨bp1q0n, 0, none⟩)] 22 (0, 0))] :: [(bp1q0n, .cells #[.slice Aa1q0n_f0 a1q0n.f0.length ca1q0n_f0, .slice Aa1q0n_f1 a1q0n.f1.length ca1q0n_f1, mpv Aa1q0n_f2] 59 (0, 0))] :: Ca1q0n_f0 :: Ca1q0n_f1 :: Γ) (G := G) (B := B) Tryz.func43 rfl (by kernel_rfl) ?_ hI
  clear hI
  unfold maps_DeleteFunc at h
  refine WP.seqR ?_
  refine WL.pure 0 1 [0, 1, 6] (L' := [(0, mpv Al0), (1, .func (.func 44) #[] #[.pointer (some ⟨bp1q0, 0, none⟩)]), (6, mpv Al0)]) (by kernel_rfl) (by decide) ?_
  refine WL.op (op := .range 57 (.tmp 6)) (ty := 0) (d := some 7) (g := none) (by kernel_rfl) (by kernel_rfl) (by kernel_rfl) (Does.rangeF mt57 Hl0 (i := 1) rfl (by kernel_rfl)) ?_
  rintro _ _ _ ⟨it1, Cit1, rfl, Hit1, rfl, rfl⟩
  refine WL.addNil ?_
  refine WL.restQ 2 [0, 1, 7] (L' := [(0, mpv Al0), (1, .func (.func 44) #[] #[.pointer (some ⟨bp1q0, 0, none⟩)]), (7, .pointer (some ⟨it1, 0, none⟩))]) (by kernel_rfl) ?_
  rw [Option.bind_eq_some_iff] at h
  obtain ⟨os2, h, hk3⟩ := h
  refine WP.cutQ (fun L' G' Γ' => ∃ s2 : (T34 → Option T38), s2 = os2 ∧ ∃ (Cs2 : Chunk), L' = [] ∧ G = G' ∧ [] :: Cs2 :: [(bp1q0, .cells #[.pointer (some ⟨bp1q0n, 0, none⟩)] 22 (0, 0))] :: [(bp1q0n, .cells #[.slice Aa1q0n_f0 a1q0n.f0.length ca1q0n_f0, .slice Aa1q0n_f1 a1q0n.f1.length ca1q0n_f1, mpv Aa1q0n_f2] 59 (0, 0))] :: Ca1q0n_f0 :: Ca1q0n_f1 :: Γ = Γ' ∧ MpF m57 G Al0 cl0 s2 Cs2) ?_ ?_
  · clear hk3
    refine WP.block ?_
    refine WP.pick [0, 1, 7] ?_
    refine WP.loopF (fun kn6 L' G' Γ' => ∃ (y4 : List T34), ∃ (y5 : (T34 → Option T38)), maps_DeleteFunc_l0 a1q0n kn6 y4 y5 = some os2 ∧ ∃ (Cy4 : Chunk), ∃ (Cy5 : Chunk), L' = [(0, mpv Al0), (1, .func (.func 44) #[] #[.pointer (some ⟨bp1q0, 0, none⟩)]), (7, .pointer (some ⟨it1, 0, none⟩))] ∧ G = G' ∧ [] :: Cy4 :: [] :: Cy5 :: [(bp1q0, .cells #[.pointer (some ⟨bp1q0n, 0, none⟩)] 22 (0, 0))] :: [(bp1q0n, .cells #[.slice Aa1q0n_f0 a1q0n.f0.length ca1q0n_f0, .slice Aa1q0n_f1 a1q0n.f1.length ca1q0n_f1, mpv Aa1q0n_f2] 59 (0, 0))] :: Ca1q0n_f0 :: Ca1q0n_f1 :: Γ = Γ' ∧ ItF m57 Al0 y5 Cy5 it1 y4 Cy4 ∧ MpF m57 G Al0 cl0 y5 Cy5) ?_ k ⟨([] : List T34), l0, h, Cit1, Cl0, rfl, rfl, rfl, Hit1, Hl0⟩
    clear h
    rintro kn7 _ _ _ ⟨y4, y5, h, Cy4, Cy5, rfl, rfl, rfl, Hy4, Hy5⟩
    cases kn7 with
    | zero => exact absurd h (by simp [maps_DeleteFunc_l0])
    | succ kn7 =>
      simp only [maps_DeleteFunc_l0] at h
      refine WP.seqR ?_
      refine WL.op (op := .next (.tmp 7) false) (ty := 0) (d := some 8) (g := none) (by kernel_rfl) (by kernel_rfl) (by kernel_rfl) (Does.nextF Hy5 Hy4 (i := 3) (j := 1) rfl rfl (by kernel_rfl)) ?_
      rintro _ _ _ (⟨rfl, hov, rfl, rfl⟩ | ⟨an8, en8, Cn8, rfl, hinn8, hnsn8, Hitn8, Hcurn8, rfl, rfl⟩)
      · rw [pickF_over hov] at h
        clear hov
        refine WL.restQ 1 [0, 1, 7, 9] (L' := [(0, mpv Al0), (1, .func (.func 44) #[] #[.pointer (some ⟨bp1q0, 0, none⟩)]), (7, .pointer (some ⟨it1, 0, none⟩)), (9, .bool false)]) (by kernel_rfl) ?_
        refine WP.seq ?_
        refine WP.no (by kernel_rfl) ?_
        refine WP.exit ?_
        refine QP.thenE ?_
        refine QP.thenE ?_
        refine QP.blockE ?_
        refine QP.dropAt 1 ?_
        refine QP.dropAt 0 ?_
        refine QP.pick [] ?_
        exact QP.meet ⟨_, Option.some.inj h, Cy5, rfl, rfl, rfl, Hy5⟩
      · replace h := pickF_pick h hinn8 hnsn8
        refine WL.restQ 1 [0, 1, 7, 9] (L' := [(0, mpv Al0), (1, .func (.func 44) #[] #[.pointer (some ⟨bp1q0, 0, none⟩)]), (7, .pointer (some ⟨it1, 0, none⟩)), (9, .bool true)]) (by kernel_rfl) ?_
        refine WP.seq ?_
        refine WP.yes (by kernel_rfl) ?_
        refine WP.skip ?_
        refine QP.next ?_
        refine WP.pick [0, 1, 7] ?_
        refine WP.block ?_
        refine WP.seqR ?_
        refine WL.tell (op := .entry (.tmp 7)) (ty := 0) (d := some 10) (g := none) (by kernel_rfl) (by kernel_rfl) (by kernel_rfl) (Tells.entryF Hitn8 Hcurn8 (i := 3) (j := 1) rfl rfl (by kernel_rfl)) ?_
        refine WL.pure 1 3 [0, 1, 7, 11, 12] (L' := [(0, mpv Al0), (1, .func (.func 44) #[] #[.pointer (some ⟨bp1q0, 0, none⟩)]), (7, .pointer (some ⟨it1, 0, none⟩)), (11, .agg #[.int .i64 an8.f0, .int .i64 an8.f1]), (12, .agg #[.int .i64 en8.f0, .int .i64 en8.f1, .int .i64 en8.f2, .int .i64 en8.f3, .string en8.f4])]) (by kernel_rfl) (by decide) ?_
        refine WL.op (op := .alloc 34) (ty := 0) (d := some 4) (g := none) (by kernel_rfl) (by kernel_rfl) (by kernel_rfl) (Does.new (o := .cells #[.int .i64 0, .int .i64 0] 34 (0, 0)) (v := fun r => .pointer (some ⟨r, 0, none⟩)) (fun r => by kernel_rfl)) ?_
        rintro _ _ _ ⟨b9, rfl, rfl, rfl⟩
        refine WL.op (op := .alloc 38) (ty := 0) (d := some 5) (g := none) (by kernel_rfl) (by kernel_rfl) (by kernel_rfl) (Does.new (o := .cells #[.int .i64 0, .int .i64 0, .int .i64 0, .int .i64 0, .string (⟨#[]⟩ : ByteArray)] 38 (0, 0)) (v := fun r => .pointer (some ⟨r, 0, none⟩)) (fun r => by kernel_rfl)) ?_
        rintro _ _ _ ⟨b10, rfl, rfl, rfl⟩
        refine WL.op (op := .store 34 (.tmp 4) (.tmp 11)) (ty := 0) (d := none) (g := none) (by kernel_rfl) (by kernel_rfl) (by kernel_rfl) (Does.store_box (i := 1) (b := b9) (o := 0) (v := .agg #[.int .i64 an8.f0, .int .i64 an8.f1]) (by rfl) sz34 (by kernel_rfl) (by kernel_rfl) (by kernel_rfl) (Free.zero _) (Nat.le_of_ble_eq_true rfl) (cells' := #[.int .i64 an8.f0, .int .i64 an8.f1]) (by kernel_rfl)) ?_
        rintro _ _ _ ⟨rfl, rfl, rfl⟩
        refine WL.op (op := .store 38 (.tmp 5) (.tmp 12)) (ty := 0) (d := none) (g := none) (by kernel_rfl) (by kernel_rfl) (by kernel_rfl) (Does.store_box (i := 0) (b := b10) (o := 0) (v := .agg #[.int .i64 en8.f0, .int .i64 en8.f1, .int .i64 en8.f2, .int .i64 en8.f3, .string en8.f4]) (by rfl) sz38 (by kernel_rfl) (by kernel_rfl) (by kernel_rfl) (Free.zero _) (Nat.le_of_ble_eq_true rfl) (cells' := #[.int .i64 en8.f0, .int .i64 en8.f1, .int .i64 en8.f2, .int .i64 en8.f3, .string en8.f4]) (by kernel_rfl)) ?_
        rintro _ _ _ ⟨rfl, rfl, rfl⟩
        refine WL.restQ 7 [0, 1, 4, 5, 7] (L' := [(0, mpv Al0), (1, .func (.func 44) #[] #[.pointer (some ⟨bp1q0, 0, none⟩)]), (4, .pointer (some ⟨b9, 0, none⟩)), (5, .pointer (some ⟨b10, 0, none⟩)), (7, .pointer (some ⟨it1, 0, none⟩))]) (by kernel_rfl) ?_
        refine WP.seqR ?_
        refine WL.pure 0 1 [0, 1, 4, 5, 7, 13] (L' := [(0, mpv Al0), (1, .func (.func 44) #[] #[.pointer (some ⟨bp1q0, 0, none⟩)]), (4, .pointer (some ⟨b9, 0, none⟩)), (5, .pointer (some ⟨b10, 0, none⟩)), (7, .pointer (some ⟨it1, 0, none⟩)), (13, .func (.func 44) #[] #[.pointer (some ⟨bp1q0, 0, none⟩)])]) (by kernel_rfl) (by decide) ?_
        refine WL.tell (op := .load 34 (.tmp 4)) (ty := 34) (d := some 14) (g := none) (by kernel_rfl) (by kernel_rfl) (by kernel_rfl) (Tells.load_box (i := 1) (b := b9) (o := 0) (agg := true) (by rfl) ag34 (by kernel_rfl) (fun h => by cases h) (Nat.le_of_ble_eq_true rfl) (v := .agg #[.int .i64 an8.f0, .int .i64 an8.f1]) (by kernel_rfl)) ?_
        refine WL.tell (op := .load 38 (.tmp 5)) (ty := 38) (d := some 15) (g := none) (by kernel_rfl) (by kernel_rfl) (by kernel_rfl) (Tells.load_box (i := 0) (b := b10) (o := 0) (agg := true) (by rfl) ag38 (by kernel_rfl) (fun h => by cases h) (Nat.le_of_ble_eq_true rfl) (v := .agg #[.int .i64 en8.f0, .int .i64 en8.f1, .int .i64 en8.f2, .int .i64 en8.f3, .string en8.f4]) (by kernel_rfl)) ?_
        refine WL.reperm (Γ' := [(bp1q0, .cells #[.pointer (some ⟨bp1q0n, 0, none⟩)] 22 (0, 0))] :: [(bp1q0n, .cells #[.slice Aa1q0n_f0 a1q0n.f0.length ca1q0n_f0, .slice Aa1q0n_f1 a1q0n.f1.length ca1q0n_f1, mpv Aa1q0n_f2] 59 (0, 0))] :: Ca1q0n_f0 :: Ca1q0n_f1 :: [(b10, .cells #[.int .i64 en8.f0, .int .i64 en8.f1, .int .i64 en8.f2, .int .i64 en8.f3, .string en8.f4] 38 (0, 0))] :: [(b9, .cells #[.int .i64 an8.f0, .int .i64 an8.f1] 34 (0, 0))] :: [] :: Cn8 :: [] :: Cy5 :: Γ) (perm_sel [6, 7, 8, 9, 0, 1, 2, 3, 4, 5] (by kernel_rfl) rfl) ?_
        rw [Option.bind_eq_some_iff] at h
        obtain ⟨t11, ht12, h⟩ := h
        refine WL.op (op := .call { callee := (.value (.tmp 13)), args := #[(.tmp 14), (.tmp 15)], argTypes := #[34, 38] }) (ty := 4) (d := some 16) (g := none) (by kernel_rfl) (by kernel_rfl) (by kernel_rfl) (Does.call (f := 44) (args := [.agg #[.int .i64 an8.f0, .int .i64 an8.f1], .agg #[.int .i64 en8.f0, .int .i64 en8.f1, .int .i64 en8.f2, .int .i64 en8.f3, .string en8.f4], .pointer (some ⟨bp1q0, 0, none⟩)]) (by kernel_rfl) (fun W hI => (state_State_Raise_1_calls an8 en8 a1q0n bp1q0 bp1q0n Aa1q0n_f0 ca1q0n_f0 Ca1q0n_f0 Ha1q0n_f0 Aa1q0n_f1 ca1q0n_f1 Ca1q0n_f1 Ha1q0n_f1 Aa1q0n_f2 ca1q0n_f2 t11 ht12 hI))) ?_
        rintro _ _ _ ⟨rfl, rfl, rfl⟩
        refine WL.restQ 4 [0, 1, 4, 7, 16] (L' := [(0, mpv Al0), (1, .func (.func 44) #[] #[.pointer (some ⟨bp1q0, 0, none⟩)]), (4, .pointer (some ⟨b9, 0, none⟩)), (7, .pointer (some ⟨it1, 0, none⟩)), (16, .bool t11)]) (by kernel_rfl) ?_
        refine WP.dropAt 4 ?_
        refine WP.cond (b := t11) (by kernel_rfl) (fun hc => ?_) (fun hc => ?_)
        · replace hc := hc
          rw [if_pos hc] at h
          have hc15 := hc
          clear hc
          refine WP.region ?_
          refine WL.pure 0 1 [0, 1, 4, 7, 17] (L' := [(0, mpv Al0), (1, .func (.func 44) #[] #[.pointer (some ⟨bp1q0, 0, none⟩)]), (4, .pointer (some ⟨b9, 0, none⟩)), (7, .pointer (some ⟨it1, 0, none⟩)), (17, mpv Al0)]) (by kernel_rfl) (by decide) ?_
          refine WL.tell (op := .load 34 (.tmp 4)) (ty := 34) (d := some 18) (g := none) (by kernel_rfl) (by kernel_rfl) (by kernel_rfl) (Tells.load_box (i := 4) (b := b9) (o := 0) (agg := true) (by rfl) ag34 (by kernel_rfl) (fun h => by cases h) (Nat.le_of_ble_eq_true rfl) (v := .agg #[.int .i64 an8.f0, .int .i64 an8.f1]) (by kernel_rfl)) ?_
          refine WL.op (op := .call { callee := (.builtin .delete), args := #[(.tmp 17), (.tmp 18)], argTypes := #[57, 34] }) (ty := 0) (d := none) (g := none) (by kernel_rfl) (by kernel_rfl) (by kernel_rfl) (Does.mapDelItF mt57 ko57 Hy5 Hitn8 (i := 8) rfl (a := an8) (by kernel_rfl) (by kernel_rfl)) ?_
          rintro _ _ _ ⟨rfl, rfl, CN16, HN16, HiN16, rfl⟩
          refine WL.rest 3 [0, 1, 7] (L' := [(0, mpv Al0), (1, .func (.func 44) #[] #[.pointer (some ⟨bp1q0, 0, none⟩)]), (7, .pointer (some ⟨it1, 0, none⟩))]) (by kernel_rfl) ?_
          refine QP.blockN ?_
          refine QP.dropAt 4 ?_
          refine QP.reperm (Γ' := [] :: Cn8 :: [] :: CN16 :: [(bp1q0, .cells #[.pointer (some ⟨bp1q0n, 0, none⟩)] 22 (0, 0))] :: [(bp1q0n, .cells #[.slice Aa1q0n_f0 a1q0n.f0.length ca1q0n_f0, .slice Aa1q0n_f1 a1q0n.f1.length ca1q0n_f1, mpv Aa1q0n_f2] 59 (0, 0))] :: Ca1q0n_f0 :: Ca1q0n_f1 :: Γ) (perm_sel [4, 5, 6, 7, 0, 1, 2, 3] (by kernel_rfl) rfl) ?_
          refine QP.pick [0, 1, 7] ?_
          exact QP.meet ⟨kn7, Nat.lt_succ_self _, (an8 :: y4), (fdel y5 an8), h, Cn8, CN16, rfl, rfl, rfl, HiN16, HN16⟩
        · replace hc := (Bool.eq_false_iff.1 hc)
          rw [if_neg hc] at h
          have hc15 := hc
          clear hc
          refine WP.skip ?_
          refine QP.blockN ?_
          refine QP.dropAt 4 ?_
          refine QP.reperm (Γ' := [] :: Cn8 :: [] :: Cy5 :: [(bp1q0, .cells #[.pointer (some ⟨bp1q0n, 0, none⟩)] 22 (0, 0))] :: [(bp1q0n, .cells #[.slice Aa1q0n_f0 a1q0n.f0.length ca1q0n_f0, .slice Aa1q0n_f1 a1q0n.f1.length ca1q0n_f1, mpv Aa1q0n_f2] 59 (0, 0))] :: Ca1q0n_f0 :: Ca1q0n_f1 :: Γ) (perm_sel [4, 5, 6, 7, 0, 1, 2, 3] (by kernel_rfl) rfl) ?_
          refine QP.pick [0, 1, 7] ?_
          exact QP.meet ⟨kn7, Nat.lt_succ_self _, (an8 :: y4), y5, h, Cn8, Cy5, rfl, rfl, rfl, Hitn8, Hy5⟩
  · rintro _ _ _ ⟨s2, rfl, Cs2, rfl, rfl, rfl, Hs2⟩
    clear h
    replace h := hk3
    obtain rfl := Option.some.inj h
    exact QP.returnedN [] [] _ (by kernel_rfl) (by kernel_rfl) (by kernel_rfl) (fun W hI => ⟨_, _, _, rfl, ⟨Cs2, rfl, Hs2, rfl, rfl⟩, hI⟩)

/-! ### (*grapevine/state.State).Raise: function 20 -/
noncomputable def state_State_Raise (k : Nat) (a0 : T59) (l1 : List Int) : Option (Int × T59) := ((vector_May k l1 (a0.f0.length : Int)).bind fun t2 => (if (!t2) = true then some ((-1), a0) else ((vector_Join k ([a0.f1, l1] : List (List Int))).bind fun t10 => ((vector_Join k ([a0.f0, t10] : List (List Int))).bind fun t19 => ((maps_DeleteFunc k a0.f2 (⟨t19, t10, a0.f2⟩ : T59)).bind fun t26 => some (IntKind.i64.wrap ((mlen a0.f2 : Int) - (mlen t26 : Int)), (⟨t19, t10, t26⟩ : T59)))))))
set_option maxHeartbeats 4000000 in
theorem state_State_Raise_calls {B : World} {G : GMap} {Γ : List Chunk} {W : World} (k : Nat) (a0 : T59) (l1 : List Int) (b0 : Nat) (Aa0_f0 : Option Addr) (ca0_f0 : Nat) (Ca0_f0 : Chunk) (Ha0_f0 : Ow (kInt .i64) G Aa0_f0 ca0_f0 a0.f0 Ca0_f0) (Aa0_f1 : Option Addr) (ca0_f1 : Nat) (Ca0_f1 : Chunk) (Ha0_f1 : Ow (kInt .i64) G Aa0_f1 ca0_f1 a0.f1 Ca0_f1) (Aa0_f2 : Option Addr) (ca0_f2 : Nat) (Ca0_f2 : Chunk) (Ha0_f2 : MpF m57 G Aa0_f2 ca0_f2 a0.f2 Ca0_f2) (Al1 : Option Addr) (cl1 : Nat) (Hl1 : Rd (kInt .i64) G Al1 cl1 l1) (r : Int × T59) (h : state_State_Raise k a0 l1 = some r) (hI : Inv B G ([(b0, .cells #[.slice Aa0_f0 a0.f0.length ca0_f0, .slice Aa0_f1 a0.f1.length ca0_f1, mpv Aa0_f2] 59 (0, 0))] :: Ca0_f0 :: Ca0_f1 :: Ca0_f2 :: Γ) W) :
    Calls Tryz.prog 20 [.pointer (some ⟨b0, 0, none⟩), .slice Al1 l1.length cl1].toArray W (Ret B (fun v G' Γ' => ∃ (ARp0_0 : Option Addr), ∃ (cRp0_0 : Nat), ∃ (CRp0_0 : Chunk), ∃ (ARp0_1 : Option Addr), ∃ (cRp0_1 : Nat), ∃ (CRp0_1 : Chunk), ∃ (ARp0_2 : Option Addr), ∃ (cRp0_2 : Nat), ∃ (CRp0_2 : Chunk), v = .int .i64 r.1 ∧ Ow (kInt .i64) G' ARp0_0 cRp0_0 r.2.f0 CRp0_0 ∧ Ow (kInt .i64) G' ARp0_1 cRp0_1 r.2.f1 CRp0_1 ∧ MpF m57 G' ARp0_2 cRp0_2 r.2.f2 CRp0_2 ∧ G = G' ∧ [(b0, .cells #[.slice ARp0_0 r.2.f0.length cRp0_0, .slice ARp0_1 r.2.f1.length cRp0_1, mpv ARp0_2] 59 (0, 0))] :: CRp0_0 :: CRp0_1 :: CRp0_2 :: Γ = Γ')) := by
  refine calls_WP (Γ := [(b0, .cells #[.slice Aa0_f0 a0.f0.length ca0_f0, .slice Aa0_f1 a0.f1.length ca0_f1, mpv Aa0_f2] 59 (0, 0))] :: Ca0_f0 :: Ca0_f1 :: Ca0_f2 :: Γ) (G := G) (B := B) Tryz.func20 rfl (by kernel_rfl) ?_ hI
  clear hI
  unfold state_State_Raise at h
  refine WP.seqR ?_
  refine WL.op (op := .box 22 (.tmp 0)) (ty := 0) (d := some 2) (g := none) (by kernel_rfl) (by kernel_rfl) (by kernel_rfl) (Does.new (o := .cells #[.pointer (some ⟨b0, 0, none⟩)] 22 (0, 0)) (v := fun r => .pointer (some ⟨r, 0, none⟩)) (fun r => by kernel_rfl)) ?_
  rintro _ _ _ ⟨b1, rfl, rfl, rfl⟩
  refine WL.restQ 1 [1, 2] (L' := [(1, .slice Al1 l1.length cl1), (2, .pointer (some ⟨b1, 0, none⟩))]) (by kernel_rfl) ?_
  refine WP.seq ?_
  refine WP.seqR ?_
  refine WL.tell (op := .load 22 (.tmp 2)) (ty := 22) (d := some 6) (g := none) (by kernel_rfl) (by kernel_rfl) (by kernel_rfl) (Tells.load_box (i := 0) (b := b1) (o := 0) (agg := false) (by rfl) ag22 (by kernel_rfl) (fun _ => rfl) (Nat.le_of_ble_eq_true rfl) (v := .pointer (some ⟨b0, 0, none⟩)) (by kernel_rfl)) ?_
  refine WL.restQ 1 [1, 2, 7] (L' := [(1, .slice Al1 l1.length cl1), (2, .pointer (some ⟨b1, 0, none⟩)), (7, .bool false)]) (by kernel_rfl) ?_
  refine WP.no (by kernel_rfl) ?_
  refine WP.skip ?_
  refine QP.next ?_
  refine WP.pick [1, 2] ?_
  refine WP.seq ?_
  refine WP.seqR ?_
  refine WL.pure 0 1 [1, 2, 8] (L' := [(1, .slice Al1 l1.length cl1), (2, .pointer (some ⟨b1, 0, none⟩)), (8, .slice Al1 l1.length cl1)]) (by kernel_rfl) (by decide) ?_
  refine WL.tell (op := .load 22 (.tmp 2)) (ty := 22) (d := some 9) (g := none) (by kernel_rfl) (by kernel_rfl) (by kernel_rfl) (Tells.load_box (i := 0) (b := b1) (o := 0) (agg := false) (by rfl) ag22 (by kernel_rfl) (fun _ => rfl) (Nat.le_of_ble_eq_true rfl) (v := .pointer (some ⟨b0, 0, none⟩)) (by kernel_rfl)) ?_
  refine WL.pure 2 4 [1, 2, 8, 11] (L' := [(1, .slice Al1 l1.length cl1), (2, .pointer (some ⟨b1, 0, none⟩)), (8, .slice Al1 l1.length cl1), (11, .pointer (some ⟨b0, 0, none⟩))]) (by kernel_rfl) (by decide) ?_
  refine WL.tell (op := .load 25 (.tmp 11)) (ty := 25) (d := some 12) (g := none) (by kernel_rfl) (by kernel_rfl) (by kernel_rfl) (Tells.load_box (i := 1) (b := b0) (o := 0) (agg := false) (by rfl) ag25 (by kernel_rfl) (fun _ => rfl) (Nat.le_of_ble_eq_true rfl) (v := .slice Aa0_f0 a0.f0.length ca0_f0) (by kernel_rfl)) ?_
  refine WL.pure 5 6 [1, 2, 8, 13] (L' := [(1, .slice Al1 l1.length cl1), (2, .pointer (some ⟨b1, 0, none⟩)), (8, .slice Al1 l1.length cl1), (13, .int .i64 (a0.f0.length : Int))]) (by kernel_rfl) (by decide) ?_
  rw [Option.bind_eq_some_iff] at h
  obtain ⟨t2, ht3, h⟩ := h
  refine WL.op (op := .call { callee := (.value (.func 23)), args := #[(.tmp 8), (.tmp 13)], argTypes := #[25, 3] }) (ty := 4) (d := some 14) (g := none) (by kernel_rfl) (by kernel_rfl) (by kernel_rfl) (Does.call (f := 23) (args := [.slice Al1 l1.length cl1, .int .i64 (a0.f0.length : Int)]) (by kernel_rfl) (fun W hI => (vector_May_calls k l1 (a0.f0.length : Int) Al1 cl1 Hl1 t2 ht3 hI))) ?_
  rintro _ _ _ ⟨rfl, rfl, rfl⟩
  refine WL.restQ 7 [1, 2, 15] (L' := [(1, .slice Al1 l1.length cl1), (2, .pointer (some ⟨b1, 0, none⟩)), (15, .bool (!t2))]) (by kernel_rfl) ?_
  refine WP.cond (b := (!t2)) (by kernel_rfl) (fun hc => ?_) (fun hc => ?_)
  · replace hc := hc
    rw [if_pos hc] at h
    have hc6 := hc
    clear hc
    refine WP.seqP [4] (L' := [(4, .int .i64 (-1))]) (by kernel_rfl) ?_
    refine WP.dropAt 0 ?_
    refine WP.ret ?_
    refine QP.thenR ?_
    obtain rfl := Option.some.inj h
    exact QP.returned [4] [.int .i64 (-1)] _ (by kernel_rfl) (by kernel_rfl) (by kernel_rfl) (fun W hI => ⟨_, _, _, rfl, ⟨Aa0_f0, ca0_f0, Ca0_f0, Aa0_f1, ca0_f1, Ca0_f1, Aa0_f2, ca0_f2, Ca0_f2, rfl, Ha0_f0, Ha0_f1, Ha0_f2, rfl, rfl⟩, hI⟩)
  · replace hc := (Bool.eq_false_iff.1 hc)
    rw [if_neg hc] at h
    have hc6 := hc
    clear hc
    refine WP.skip ?_
    refine QP.next ?_
    refine WP.pick [1, 2] ?_
    refine WP.seq ?_
    refine WP.any (N := 11) (S := [⟨some 16, [2], []⟩, ⟨some 17, [2], []⟩, ⟨some 18, [17], [1]⟩, ⟨some 19, [18], [2]⟩, ⟨some 20, [19], [3]⟩, ⟨some 21, [1], []⟩, ⟨some 22, [20, 21], [4, 5]⟩, ⟨some 23, [22], [6]⟩, ⟨some 24, [16], [0, 1, 2, 3, 4, 5, 6, 7]⟩, ⟨some 25, [24], [0, 1, 2, 3, 4, 5, 6, 7, 8]⟩, ⟨none, [23, 25], [0, 1, 2, 3, 4, 5, 6, 7, 9]⟩]) (kw := 10) (G0 := G) (Γ0 := [(b1, .cells #[.pointer (some ⟨b0, 0, none⟩)] 22 (0, 0))] :: [(b0, .cells #[.slice Aa0_f0 a0.f0.length ca0_f0, .slice Aa0_f1 a0.f1.length ca0_f1, mpv Aa0_f2] 59 (0, 0))] :: Ca0_f0 :: Ca0_f1 :: Ca0_f2 :: Γ) mo (by kernel_rfl) (fun hS => ?_)
    refine WA.pure [5] [2, 21] (m := 10) (b' := 32) (L' := [(2, .pointer (some ⟨b1, 0, none⟩)), (21, .slice Al1 l1.length cl1)]) (by kernel_rfl) (NoPanic.then (NoPanic.body)) Under.refl hS (by kernel_rfl) ?_
    refine WA.tellD [10] (i := 0) (m := 9) (b' := 33) (by kernel_rfl) (NoPanic.then (NoPanic.body)) Under.refl hS (by kernel_rfl) (op := .load 22 (.tmp 2)) (ty := 22) (d := some 16) (g := none) (by kernel_rfl) (by kernel_rfl) (by kernel_rfl) (Tells.load_box (i := 0) (b := b1) (o := 0) (agg := false) (by rfl) ag22 (by kernel_rfl) (fun _ => rfl) (Nat.le_of_ble_eq_true rfl) (v := .pointer (some ⟨b0, 0, none⟩)) (by kernel_rfl)) ?_
    refine WA.tellD [10] (i := 1) (m := 8) (b' := 35) (by kernel_rfl) (NoPanic.then (NoPanic.body)) Under.refl hS (by kernel_rfl) (op := .load 22 (.tmp 2)) (ty := 22) (d := some 17) (g := none) (by kernel_rfl) (by kernel_rfl) (by kernel_rfl) (Tells.load_box (i := 0) (b := b1) (o := 0) (agg := false) (by rfl) ag22 (by kernel_rfl) (fun _ => rfl) (Nat.le_of_ble_eq_true rfl) (v := .pointer (some ⟨b0, 0, none⟩)) (by kernel_rfl)) ?_
    refine WA.pure [2, 3] [2, 16, 19, 21] (m := 6) (b' := 47) (L' := [(2, .pointer (some ⟨b1, 0, none⟩)), (16, .pointer (some ⟨b0, 0, none⟩)), (19, .pointer (some ⟨b0, 1, none⟩)), (21, .slice Al1 l1.length cl1)]) (by kernel_rfl) (NoPanic.then (NoPanic.body)) Under.refl hS (by kernel_rfl) ?_
    refine WA.tellD [10] (i := 4) (m := 5) (b' := 63) (by kernel_rfl) (NoPanic.then (NoPanic.body)) Under.refl hS (by kernel_rfl) (op := .load 25 (.tmp 19)) (ty := 25) (d := some 20) (g := none) (by kernel_rfl) (by kernel_rfl) (by kernel_rfl) (Tells.load_box (i := 1) (b := b0) (o := 1) (agg := false) (by rfl) ag25 (by kernel_rfl) (fun _ => rfl) (Nat.le_of_ble_eq_true rfl) (v := .slice Aa0_f1 a0.f1.length ca0_f1) (by kernel_rfl)) ?_
    refine WA.op (i := 6) (m := 4) (b' := 127) (by kernel_rfl) hS (by kernel_rfl) (op := .buildSlice 88 2 #[(0, (.tmp 20)), (1, (.tmp 21))]) (ty := 88) (d := some 22) (g := none) (by kernel_rfl) (by kernel_rfl) (by kernel_rfl) (Does.new (o := .cells #[.slice Aa0_f1 a0.f1.length ca0_f1, .slice Al1 l1.length cl1] 25 (0, 0)) (v := fun r => .slice (some ⟨r, 0, none⟩) 2 2) (fun r => by kernel_rfl)) ?_
    rintro _ _ _ ⟨b7, rfl, rfl, rfl⟩
    refine ⟨_, _, Under.cons Under.refl, Under.refl, ?_⟩
    rw [Option.bind_eq_some_iff] at h
    obtain ⟨t10, ht11, h⟩ := h
    refine WA.op (i := 7) (m := 3) (b' := 255) (by kernel_rfl) hS (by kernel_rfl) (op := .call { callee := (.value (.func 24)), args := #[(.tmp 22)], argTypes := #[88] }) (ty := 25) (d := some 23) (g := none) (by kernel_rfl) (by kernel_rfl) (by kernel_rfl) (Does.call (Φ := fun v' G' Γ' => ∃ (AR12 : Option Addr), ∃ (cR12 : Nat), ∃ (CR12 : Chunk), v' = .slice AR12 t10.length cR12 ∧ Ow (kInt .i64) G AR12 cR12 t10 CR12 ∧ G = G' ∧ CR12 :: [(b7, .cells #[.slice Aa0_f1 a0.f1.length ca0_f1, .slice Al1 l1.length cl1] 25 (0, 0))] :: [(b1, .cells #[.pointer (some ⟨b0, 0, none⟩)] 22 (0, 0))] :: [(b0, .cells #[.slice Aa0_f0 a0.f0.length ca0_f0, .slice Aa0_f1 a0.f1.length ca0_f1, mpv Aa0_f2] 59 (0, 0))] :: Ca0_f0 :: Ca0_f1 :: Ca0_f2 :: Γ = Γ') (f := 24) (args := [.slice (some ⟨b7, 0, none⟩) ([a0.f1, l1] : List (List Int)).length 2]) (by kernel_rfl) (fun W hI => (Calls.lendN (Φ := fun v' N => ∃ (AR12 : Option Addr), ∃ (cR12 : Nat), ∃ (CR12 : Chunk), v' = .slice AR12 t10.length cR12 ∧ Ow (kInt .i64) G AR12 cR12 t10 CR12 ∧ N = [CR12]) (H := []) (i := 4) rfl hI (fun _ e l14 nl14 hI => by subst e; exact Calls.lendN (Φ := fun v' N => ∃ (AR12 : Option Addr), ∃ (cR12 : Nat), ∃ (CR12 : Chunk), v' = .slice AR12 t10.length cR12 ∧ Ow (kInt .i64) G AR12 cR12 t10 CR12 ∧ N = [CR12]) (H := []) (i := 0) rfl hI (fun _ e l15 nl15 hI => by subst e; exact (((vector_Join_calls k ([a0.f1, l1] : List (List Int)) (some ⟨b7, 0, none⟩) 2 ((Ow.lit (kd := (kSlice (kInt .i64))) (b := b7) (T := 25) (xs := ([a0.f1, l1] : List (List Int))) (cs := [.slice Aa0_f1 a0.f1.length ca0_f1, .slice Al1 l1.length cl1]) (.cons (x := a0.f1) (cs := [.slice Aa0_f1 a0.f1.length ca0_f1]) ⟨Aa0_f1, ca0_f1, rfl, (Ha0_f1.rdN l14 nl14)⟩ (.cons (x := l1) (cs := [.slice Al1 l1.length cl1]) ⟨Al1, cl1, rfl, (Hl1.mono l14)⟩ .nil))).rdN l15 nl15) t10 ht11 hI)).mono fun _ _ hr => by obtain ⟨_, _, _, rfl, hd, hI⟩ := hr; obtain ⟨AR12, cR12, CR12, rfl, HR12, rfl, rfl⟩ := hd; exact ⟨_, _, _, rfl, ⟨[CR12], ⟨AR12, cR12, CR12, rfl, (HR12.flat (kInt_flat _)), rfl⟩, rfl, rfl⟩, hI⟩)))).mono fun _ _ hr => by obtain ⟨_, _, _, rfl, ⟨_, hd, rfl, rfl⟩, hI⟩ := hr; obtain ⟨AR12, cR12, CR12, rfl, HR12, rfl⟩ := hd; exact ⟨_, _, _, rfl, ⟨AR12, cR12, CR12, rfl, HR12, rfl, rfl⟩, hI⟩)) ?_
    rintro _ _ _ ⟨AR12, cR12, CR12, rfl, HR12, rfl, rfl⟩
    refine ⟨_, _, Under.cons (Under.refl), Under.refl, ?_⟩
    refine WA.pure [8, 9] [2, 23, 25] (m := 1) (b' := 1023) (L' := [(2, .pointer (some ⟨b1, 0, none⟩)), (23, .slice AR12 t10.length cR12), (25, .pointer (some ⟨b0, 1, none⟩))]) (by kernel_rfl) (NoPanic.then (NoPanic.body)) Under.refl hS (by kernel_rfl) ?_
    refine WA.opK (i := 10) (kw' := 11) (m := 0) (b' := 2047) (by kernel_rfl) rfl hS (by kernel_rfl) (op := .store 25 (.tmp 25) (.tmp 23)) (ty := 0) (d := none) (g := none) (by kernel_rfl) (by kernel_rfl) (by kernel_rfl) (Does.store_box (i := 3) (b := b0) (o := 1) (v := .slice AR12 t10.length cR12) (by rfl) sz25 (by kernel_rfl) (by kernel_rfl) (by kernel_rfl) (Free.zero _) (Nat.le_of_ble_eq_true rfl) (cells' := #[.slice Aa0_f0 a0.f0.length ca0_f0, .slice AR12 t10.length cR12, mpv Aa0_f2]) (by kernel_rfl)) ?_
    rintro _ _ _ ⟨rfl, rfl, rfl⟩
    refine ⟨_, _, Under.refl, ?_⟩
    refine WA.done hS (by kernel_rfl) ?_
    refine QP.pick [2] ?_
    refine QP.next ?_
    refine WP.dropAt 5 ?_
    refine WP.dropAt 1 ?_
    refine WP.seq ?_
    refine WP.any (N := 14) (S := [⟨some 26, [2], []⟩, ⟨some 27, [2], []⟩, ⟨some 28, [27], [1]⟩, ⟨some 29, [28], [2]⟩, ⟨some 30, [29], [3]⟩, ⟨some 31, [2], []⟩, ⟨some 32, [31], [5]⟩, ⟨some 33, [32], [6]⟩, ⟨some 34, [33], [7]⟩, ⟨some 35, [30, 34], [4, 8]⟩, ⟨some 36, [35], [9]⟩, ⟨some 37, [26], [0, 1, 2, 3, 4, 5, 6, 7, 8, 9, 10]⟩, ⟨some 38, [37], [0, 1, 2, 3, 4, 5, 6, 7, 8, 9, 10, 11]⟩, ⟨none, [36, 38], [0, 1, 2, 3, 4, 5, 6, 7, 8, 9, 10, 12]⟩]) (kw := 13) (G0 := G) (Γ0 := CR12 :: [(b1, .cells #[.pointer (some ⟨b0, 0, none⟩)] 22 (0, 0))] :: [(b0, .cells #[.slice Aa0_f0 a0.f0.length ca0_f0, .slice AR12 t10.length cR12, mpv Aa0_f2] 59 (0, 0))] :: Ca0_f0 :: Ca0_f2 :: Γ) mo (by kernel_rfl) (fun hS => ?_)
    refine WA.tellD [13] (i := 0) (m := 13) (b' := 1) (by kernel_rfl) (NoPanic.then (NoPanic.body)) Under.refl hS (by kernel_rfl) (op := .load 22 (.tmp 2)) (ty := 22) (d := some 26) (g := none) (by kernel_rfl) (by kernel_rfl) (by kernel_rfl) (Tells.load_box (i := 1) (b := b1) (o := 0) (agg := false) (by rfl) ag22 (by kernel_rfl) (fun _ => rfl) (Nat.le_of_ble_eq_true rfl) (v := .pointer (some ⟨b0, 0, none⟩)) (by kernel_rfl)) ?_
    refine WA.tellD [13] (i := 1) (m := 12) (b' := 3) (by kernel_rfl) (NoPanic.then (NoPanic.body)) Under.refl hS (by kernel_rfl) (op := .load 22 (.tmp 2)) (ty := 22) (d := some 27) (g := none) (by kernel_rfl) (by kernel_rfl) (by kernel_rfl) (Tells.load_box (i := 1) (b := b1) (o := 0) (agg := false) (by rfl) ag22 (by kernel_rfl) (fun _ => rfl) (Nat.le_of_ble_eq_true rfl) (v := .pointer (some ⟨b0, 0, none⟩)) (by kernel_rfl)) ?_
    refine WA.pure [2, 3] [2, 26, 29] (m := 10) (b' := 15) (L' := [(2, .pointer (some ⟨b1, 0, none⟩)), (26, .pointer (some ⟨b0, 0, none⟩)), (29, .pointer (some ⟨b0, 0, none⟩))]) (by kernel_rfl) (NoPanic.then (NoPanic.body)) Under.refl hS (by kernel_rfl) ?_
    refine WA.tellD [13] (i := 4) (m := 9) (b' := 31) (by kernel_rfl) (NoPanic.then (NoPanic.body)) Under.refl hS (by kernel_rfl) (op := .load 25 (.tmp 29)) (ty := 25) (d := some 30) (g := none) (by kernel_rfl) (by kernel_rfl) (by kernel_rfl) (Tells.load_box (i := 2) (b := b0) (o := 0) (agg := false) (by rfl) ag25 (by kernel_rfl) (fun _ => rfl) (Nat.le_of_ble_eq_true rfl) (v := .slice Aa0_f0 a0.f0.length ca0_f0) (by kernel_rfl)) ?_
    refine WA.tellD [13] (i := 5) (m := 8) (b' := 63) (by kernel_rfl) (NoPanic.then (NoPanic.body)) Under.refl hS (by kernel_rfl) (op := .load 22 (.tmp 2)) (ty := 22) (d := some 31) (g := none) (by kernel_rfl) (by kernel_rfl) (by kernel_rfl) (Tells.load_box (i := 1) (b := b1) (o := 0) (agg := false) (by rfl) ag22 (by kernel_rfl) (fun _ => rfl) (Nat.le_of_ble_eq_true rfl) (v := .pointer (some ⟨b0, 0, none⟩)) (by kernel_rfl)) ?_
    refine WA.pure [6, 7] [2, 26, 30, 33] (m := 6) (b' := 255) (L' := [(2, .pointer (some ⟨b1, 0, none⟩)), (26, .pointer (some ⟨b0, 0, none⟩)), (30, .slice Aa0_f0 a0.f0.length ca0_f0), (33, .pointer (some ⟨b0, 1, none⟩))]) (by kernel_rfl) (NoPanic.then (NoPanic.body)) Under.refl hS (by kernel_rfl) ?_
    refine WA.tellD [13] (i := 8) (m := 5) (b' := 511) (by kernel_rfl) (NoPanic.then (NoPanic.body)) Under.refl hS (by kernel_rfl) (op := .load 25 (.tmp 33)) (ty := 25) (d := some 34) (g := none) (by kernel_rfl) (by kernel_rfl) (by kernel_rfl) (Tells.load_box (i := 2) (b := b0) (o := 1) (agg := false) (by rfl) ag25 (by kernel_rfl) (fun _ => rfl) (Nat.le_of_ble_eq_true rfl) (v := .slice AR12 t10.length cR12) (by kernel_rfl)) ?_
    refine WA.op (i := 9) (m := 4) (b' := 1023) (by kernel_rfl) hS (by kernel_rfl) (op := .buildSlice 88 2 #[(0, (.tmp 30)), (1, (.tmp 34))]) (ty := 88) (d := some 35) (g := none) (by kernel_rfl) (by kernel_rfl) (by kernel_rfl) (Does.new (o := .cells #[.slice Aa0_f0 a0.f0.length ca0_f0, .slice AR12 t10.length cR12] 25 (0, 0)) (v := fun r => .slice (some ⟨r, 0, none⟩) 2 2) (fun r => by kernel_rfl)) ?_
    rintro _ _ _ ⟨b16, rfl, rfl, rfl⟩
    refine ⟨_, _, Under.cons Under.refl, Under.refl, ?_⟩
    rw [Option.bind_eq_some_iff] at h
    obtain ⟨t19, ht20, h⟩ := h
    refine WA.op (i := 10) (m := 3) (b' := 2047) (by kernel_rfl) hS (by kernel_rfl) (op := .call { callee := (.value (.func 24)), args := #[(.tmp 35)], argTypes := #[88] }) (ty := 25) (d := some 36) (g := none) (by kernel_rfl) (by kernel_rfl) (by kernel_rfl) (Does.call (Φ := fun v' G' Γ' => ∃ (AR21 : Option Addr), ∃ (cR21 : Nat), ∃ (CR21 : Chunk), v' = .slice AR21 t19.length cR21 ∧ Ow (kInt .i64) G AR21 cR21 t19 CR21 ∧ G = G' ∧ CR21 :: [(b16, .cells #[.slice Aa0_f0 a0.f0.length ca0_f0, .slice AR12 t10.length cR12] 25 (0, 0))] :: CR12 :: [(b1, .cells #[.pointer (some ⟨b0, 0, none⟩)] 22 (0, 0))] :: [(b0, .cells #[.slice Aa0_f0 a0.f0.length ca0_f0, .slice AR12 t10.length cR12, mpv Aa0_f2] 59 (0, 0))] :: Ca0_f0 :: Ca0_f2 :: Γ = Γ') (f := 24) (args := [.slice (some ⟨b16, 0, none⟩) ([a0.f0, t10] : List (List Int)).length 2]) (by kernel_rfl) (fun W hI => (Calls.lendN (Φ := fun v' N => ∃ (AR21 : Option Addr), ∃ (cR21 : Nat), ∃ (CR21 : Chunk), v' = .slice AR21 t19.length cR21 ∧ Ow (kInt .i64) G AR21 cR21 t19 CR21 ∧ N = [CR21]) (H := []) (i := 4) rfl hI (fun _ e l23 nl23 hI => by subst e; exact Calls.lendN (Φ := fun v' N => ∃ (AR21 : Option Addr), ∃ (cR21 : Nat), ∃ (CR21 : Chunk), v' = .slice AR21 t19.length cR21 ∧ Ow (kInt .i64) G AR21 cR21 t19 CR21 ∧ N = [CR21]) (H := []) (i := 1) rfl hI (fun _ e l24 nl24 hI => by subst e; exact Calls.lendN (Φ := fun v' N => ∃ (AR21 : Option Addr), ∃ (cR21 : Nat), ∃ (CR21 : Chunk), v' = .slice AR21 t19.length cR21 ∧ Ow (kInt .i64) G AR21 cR21 t19 CR21 ∧ N = [CR21]) (H := []) (i := 0) rfl hI (fun _ e l25 nl25 hI => by subst e; exact (((vector_Join_calls k ([a0.f0, t10] : List (List Int)) (some ⟨b16, 0, none⟩) 2 ((Ow.lit (kd := (kSlice (kInt .i64))) (b := b16) (T := 25) (xs := ([a0.f0, t10] : List (List Int))) (cs := [.slice Aa0_f0 a0.f0.length ca0_f0, .slice AR12 t10.length cR12]) (.cons (x := a0.f0) (cs := [.slice Aa0_f0 a0.f0.length ca0_f0]) ⟨Aa0_f0, ca0_f0, rfl, ((Ha0_f0.rdN l23 nl23).mono l24)⟩ (.cons (x := t10) (cs := [.slice AR12 t10.length cR12]) ⟨AR12, cR12, rfl, ((HR12.mono l23).rdN l24 nl24)⟩ .nil))).rdN l25 nl25) t19 ht20 hI)).mono fun _ _ hr => by obtain ⟨_, _, _, rfl, hd, hI⟩ := hr; obtain ⟨AR21, cR21, CR21, rfl, HR21, rfl, rfl⟩ := hd; exact ⟨_, _, _, rfl, ⟨[CR21], ⟨AR21, cR21, CR21, rfl, (HR21.flat (kInt_flat _)), rfl⟩, rfl, rfl⟩, hI⟩))))).mono fun _ _ hr => by obtain ⟨_, _, _, rfl, ⟨_, hd, rfl, rfl⟩, hI⟩ := hr; obtain ⟨AR21, cR21, CR21, rfl, HR21, rfl⟩ := hd; exact ⟨_, _, _, rfl, ⟨AR21, cR21, CR21, rfl, HR21, rfl, rfl⟩, hI⟩)) ?_
    rintro _ _ _ ⟨AR21, cR21, CR21, rfl, HR21, rfl, rfl⟩
    refine ⟨_, _, Under.cons (Under.refl), Under.refl, ?_⟩
    refine WA.pure [11, 12] [2, 36, 38] (m := 1) (b' := 8191) (L' := [(2, .pointer (some ⟨b1, 0, none⟩)), (36, .slice AR21 t19.length cR21), (38, .pointer (some ⟨b0, 0, none⟩))]) (by kernel_rfl) (NoPanic.then (NoPanic.body)) Under.refl hS (by kernel_rfl) ?_
    refine WA.opK (i := 13) (kw' := 14) (m := 0) (b' := 16383) (by kernel_rfl) rfl hS (by kernel_rfl) (op := .store 25 (.tmp 38) (.tmp 36)) (ty := 0) (d := none) (g := none) (by kernel_rfl) (by kernel_rfl) (by kernel_rfl) (Does.store_box (i := 4) (b := b0) (o := 0) (v := .slice AR21 t19.length cR21) (by rfl) sz25 (by kernel_rfl) (by kernel_rfl) (by kernel_rfl) (Free.zero _) (Nat.le_of_ble_eq_true rfl) (cells' := #[.slice AR21 t19.length cR21, .slice AR12 t10.length cR12, mpv Aa0_f2]) (by kernel_rfl)) ?_
    rintro _ _ _ ⟨rfl, rfl, rfl⟩
    refine ⟨_, _, Under.refl, ?_⟩
    refine WA.done hS (by kernel_rfl) ?_
    refine QP.pick [2] ?_
    refine QP.next ?_
    refine WP.dropAt 5 ?_
    refine WP.dropAt 1 ?_
    refine WP.seqR ?_
    refine WL.tell (op := .load 22 (.tmp 2)) (ty := 22) (d := some 39) (g := none) (by kernel_rfl) (by kernel_rfl) (by kernel_rfl) (Tells.load_box (i := 2) (b := b1) (o := 0) (agg := false) (by rfl) ag22 (by kernel_rfl) (fun _ => rfl) (Nat.le_of_ble_eq_true rfl) (v := .pointer (some ⟨b0, 0, none⟩)) (by kernel_rfl)) ?_
    refine WL.pure 1 3 [2, 41] (L' := [(2, .pointer (some ⟨b1, 0, none⟩)), (41, .pointer (some ⟨b0, 2, none⟩))]) (by kernel_rfl) (by decide) ?_
    refine WL.tell (op := .load 57 (.tmp 41)) (ty := 57) (d := some 42) (g := none) (by kernel_rfl) (by kernel_rfl) (by kernel_rfl) (Tells.load_box (i := 3) (b := b0) (o := 2) (agg := false) (by rfl) ag57 (by kernel_rfl) (fun _ => rfl) (Nat.le_of_ble_eq_true rfl) (v := mpv Aa0_f2) (by kernel_rfl)) ?_
    refine WL.tell (op := .call { callee := (.builtin .len), args := #[(.tmp 42)], argTypes := #[57] }) (ty := 3) (d := some 43) (g := none) (by kernel_rfl) (by kernel_rfl) (by kernel_rfl) (Tells.mapLenF mt57 Ha0_f2 (i := 4) rfl (by kernel_rfl)) ?_
    refine WL.restQ 5 [2, 5] (L' := [(2, .pointer (some ⟨b1, 0, none⟩)), (5, .int .i64 (mlen a0.f2 : Int))]) (by kernel_rfl) ?_
    refine WP.seqR ?_
    refine WL.tell (op := .load 22 (.tmp 2)) (ty := 22) (d := some 44) (g := none) (by kernel_rfl) (by kernel_rfl) (by kernel_rfl) (Tells.load_box (i := 2) (b := b1) (o := 0) (agg := false) (by rfl) ag22 (by kernel_rfl) (fun _ => rfl) (Nat.le_of_ble_eq_true rfl) (v := .pointer (some ⟨b0, 0, none⟩)) (by kernel_rfl)) ?_
    refine WL.pure 1 3 [2, 5, 46] (L' := [(2, .pointer (some ⟨b1, 0, none⟩)), (5, .int .i64 (mlen a0.f2 : Int)), (46, .pointer (some ⟨b0, 2, none⟩))]) (by kernel_rfl) (by decide) ?_
    refine WL.tell (op := .load 57 (.tmp 46)) (ty := 57) (d := some 47) (g := none) (by kernel_rfl) (by kernel_rfl) (by kernel_rfl) (Tells.load_box (i := 3) (b := b0) (o := 2) (agg := false) (by rfl) ag57 (by kernel_rfl) (fun _ => rfl) (Nat.le_of_ble_eq_true rfl) (v := mpv Aa0_f2) (by kernel_rfl)) ?_
    refine WL.pure 4 5 [2, 5, 47, 48] (L' := [(2, .pointer (some ⟨b1, 0, none⟩)), (5, .int .i64 (mlen a0.f2 : Int)), (47, mpv Aa0_f2), (48, .func (.func 44) #[] #[.pointer (some ⟨b1, 0, none⟩)])]) (by kernel_rfl) (by decide) ?_
    refine WL.addNil ?_
    refine WL.reperm (Γ' := [] :: Ca0_f2 :: [(b1, .cells #[.pointer (some ⟨b0, 0, none⟩)] 22 (0, 0))] :: [(b0, .cells #[.slice AR21 t19.length cR21, .slice AR12 t10.length cR12, mpv Aa0_f2] 59 (0, 0))] :: CR21 :: CR12 :: Γ) (perm_sel [0, 5, 3, 4, 1, 2] (by kernel_rfl) rfl) ?_
    rw [Option.bind_eq_some_iff] at h
    obtain ⟨t26, ht27, h⟩ := h
    refine WL.op (op := .call { callee := (.value (.func 43)), args := #[(.tmp 47), (.tmp 48)], argTypes := #[57, 83] }) (ty := 0) (d := some 49) (g := none) (by kernel_rfl) (by kernel_rfl) (by kernel_rfl) (Does.call (f := 43) (args := [mpv Aa0_f2, .func (.func 44) #[] #[.pointer (some ⟨b1, 0, none⟩)]]) (by kernel_rfl) (fun W hI => (maps_DeleteFunc_calls k a0.f2 (⟨t19, t10, a0.f2⟩ : T59) Aa0_f2 ca0_f2 Ca0_f2 Ha0_f2 b1 b0 AR21 cR21 CR21 HR21 AR12 cR12 CR12 HR12 Aa0_f2 ca0_f2 t26 ht27 hI))) ?_
    rintro _ _ _ ⟨CR29p0, rfl, HR29p0, rfl, rfl⟩
    refine WL.restQ 6 [2, 5] (L' := [(2, .pointer (some ⟨b1, 0, none⟩)), (5, .int .i64 (mlen a0.f2 : Int))]) (by kernel_rfl) ?_
    refine WP.dropAt 0 ?_
    refine WP.seqR ?_
    refine WL.pure 0 1 [2, 50] (L' := [(2, .pointer (some ⟨b1, 0, none⟩)), (50, .int .i64 (mlen a0.f2 : Int))]) (by kernel_rfl) (by decide) ?_
    refine WL.tell (op := .load 22 (.tmp 2)) (ty := 22) (d := some 51) (g := none) (by kernel_rfl) (by kernel_rfl) (by kernel_rfl) (Tells.load_box (i := 1) (b := b1) (o := 0) (agg := false) (by rfl) ag22 (by kernel_rfl) (fun _ => rfl) (Nat.le_of_ble_eq_true rfl) (v := .pointer (some ⟨b0, 0, none⟩)) (by kernel_rfl)) ?_
    refine WL.pure 2 4 [50, 53] (L' := [(50, .int .i64 (mlen a0.f2 : Int)), (53, .pointer (some ⟨b0, 2, none⟩))]) (by kernel_rfl) (by decide) ?_
    refine WL.tell (op := .load 57 (.tmp 53)) (ty := 57) (d := some 54) (g := none) (by kernel_rfl) (by kernel_rfl) (by kernel_rfl) (Tells.load_box (i := 2) (b := b0) (o := 2) (agg := false) (by rfl) ag57 (by kernel_rfl) (fun _ => rfl) (Nat.le_of_ble_eq_true rfl) (v := mpv Aa0_f2) (by kernel_rfl)) ?_
    refine WL.tell (op := .call { callee := (.builtin .len), args := #[(.tmp 54)], argTypes := #[57] }) (ty := 3) (d := some 55) (g := none) (by kernel_rfl) (by kernel_rfl) (by kernel_rfl) (Tells.mapLenF mt57 HR29p0 (i := 0) rfl (by kernel_rfl)) ?_
    refine WL.restQ 6 [4] (L' := [(4, .int .i64 (IntKind.i64.wrap ((mlen a0.f2 : Int) - (mlen t26 : Int))))]) (by kernel_rfl) ?_
    refine WP.dropAt 1 ?_
    refine WP.ret ?_
    obtain rfl := Option.some.inj h
    refine QP.reperm (Γ' := [(b0, .cells #[.slice AR21 t19.length cR21, .slice AR12 t10.length cR12, mpv Aa0_f2] 59 (0, 0))] :: CR21 :: CR12 :: CR29p0 :: Γ) (perm_sel [1, 2, 3, 0] (by kernel_rfl) rfl) ?_
    exact QP.returned [4] [.int .i64 (IntKind.i64.wrap ((mlen a0.f2 : Int) - (mlen t26 : Int)))] _ (by kernel_rfl) (by kernel_rfl) (by kernel_rfl) (fun W hI => ⟨_, _, _, rfl, ⟨AR21, cR21, CR21, AR12, cR12, CR12, Aa0_f2, ca0_f2, CR29p0, rfl, HR21, HR12, HR29p0, rfl, rfl⟩, hI⟩)

/-! ### (*grapevine/state.State).Retire: function 7 -/
noncomputable def state_State_Retire_31 (k : Nat) (a0 : T59) (a1 : Int) (a2 : Int) : Option (Int × T59) := ((if a1 < 0 then some true else (if a1 ≥ (a0.f0.length : Int) then some true else (if a2 < 0 then some true else some (decide (a2 > 1023))))).bind fun s1 => (if s1 = true then some (2, a0) else ((state_State_W_27 a0).bind fun t7 => (if 0 ≤ a1 ∧ a1 < (t7.length : Int) then (if 0 ≤ a1 ∧ a1 < (a0.f0.length : Int) then (if 0 ≤ a1 ∧ a1 < (t7.length : Int) then ((some (t7.set a1.toNat (if (if (a0.f0.getD a1.toNat 0) < a2 then (a0.f0.getD a1.toNat 0) else a2) > (t7.getD a1.toNat 0) then (if (a0.f0.getD a1.toNat 0) < a2 then (a0.f0.getD a1.toNat 0) else a2) else (t7.getD a1.toNat 0)))).bind fun v16 => ((state_State_Raise k a0 v16).bind fun t19 => some (0, t19.2))) else none) else none) else none))))
set_option maxHeartbeats 4000000 in
theorem state_State_Retire_31_calls {B : World} {G : GMap} {Γ : List Chunk} {W : World} (k : Nat) (a0 : T59) (a1 : Int) (a2 : Int) (b0 : Nat) (Aa0_f0 : Option Addr) (ca0_f0 : Nat) (Ca0_f0 : Chunk) (Ha0_f0 : Ow (kInt .i64) G Aa0_f0 ca0_f0 a0.f0 Ca0_f0) (Aa0_f1 : Option Addr) (ca0_f1 : Nat) (Ca0_f1 : Chunk) (Ha0_f1 : Ow (kInt .i64) G Aa0_f1 ca0_f1 a0.f1 Ca0_f1) (Aa0_f2 : Option Addr) (ca0_f2 : Nat) (Ca0_f2 : Chunk) (Ha0_f2 : MpF m57 G Aa0_f2 ca0_f2 a0.f2 Ca0_f2) (r : Int × T59) (h : state_State_Retire_31 k a0 a1 a2 = some r) (hI : Inv B G ([(b0, .cells #[.slice Aa0_f0 a0.f0.length ca0_f0, .slice Aa0_f1 a0.f1.length ca0_f1, mpv Aa0_f2] 59 (0, 0))] :: Ca0_f0 :: Ca0_f1 :: Ca0_f2 :: Γ) W) :
    Calls Tryz.prog 7 [.pointer (some ⟨b0, 0, none⟩), .int .i64 a1, .int .i64 a2].toArray W (Ret B (fun v G' Γ' => ∃ (ARp0_0 : Option Addr), ∃ (cRp0_0 : Nat), ∃ (CRp0_0 : Chunk), ∃ (ARp0_1 : Option Addr), ∃ (cRp0_1 : Nat), ∃ (CRp0_1 : Chunk), ∃ (ARp0_2 : Option Addr), ∃ (cRp0_2 : Nat), ∃ (CRp0_2 : Chunk), v = .int .i64 r.1 ∧ Ow (kInt .i64) G' ARp0_0 cRp0_0 r.2.f0 CRp0_0 ∧ Ow (kInt .i64) G' ARp0_1 cRp0_1 r.2.f1 CRp0_1 ∧ MpF m57 G' ARp0_2 cRp0_2 r.2.f2 CRp0_2 ∧ G = G' ∧ [(b0, .cells #[.slice ARp0_0 r.2.f0.length cRp0_0, .slice ARp0_1 r.2.f1.length cRp0_1, mpv ARp0_2] 59 (0, 0))] :: CRp0_0 :: CRp0_1 :: CRp0_2 :: Γ = Γ')) := by
  refine calls_WP (Γ := [(b0, .cells #[.slice Aa0_f0 a0.f0.length ca0_f0, .slice Aa0_f1 a0.f1.length ca0_f1, mpv Aa0_f2] 59 (0, 0))] :: Ca0_f0 :: Ca0_f1 :: Ca0_f2 :: Γ) (G := G) (B := B) Tryz.func7 rfl (by kernel_rfl) ?_ hI
  clear hI
  unfold state_State_Retire_31 at h
  refine WP.seqP [0, 1, 2] (L' := [(0, .pointer (some ⟨b0, 0, none⟩)), (1, .int .i64 a1), (2, .int .i64 a2)]) (by kernel_rfl) ?_
  refine WP.seq ?_
  refine WP.block ?_
  refine WP.seqP [0, 1, 2, 8] (L' := [(0, .pointer (some ⟨b0, 0, none⟩)), (1, .int .i64 a1), (2, .int .i64 a2), (8, .bool false)]) (by kernel_rfl) ?_
  refine WP.no (by kernel_rfl) ?_
  rw [Option.bind_eq_some_iff] at h
  obtain ⟨os1, h, hk2⟩ := h
  refine WP.cut (fun L' G' Γ' => ∃ s1 : Bool, s1 = os1 ∧ L' = [(0, .pointer (some ⟨b0, 0, none⟩)), (1, .int .i64 a1), (2, .int .i64 a2), (11, .bool s1)] ∧ G = G' ∧ [(b0, .cells #[.slice Aa0_f0 a0.f0.length ca0_f0, .slice Aa0_f1 a0.f1.length ca0_f1, mpv Aa0_f2] 59 (0, 0))] :: Ca0_f0 :: Ca0_f1 :: Ca0_f2 :: Γ = Γ') ?_ ?_
  · clear hk2
    refine WP.region ?_
    refine WL.pure 0 3 [0, 1, 2, 14] (L' := [(0, .pointer (some ⟨b0, 0, none⟩)), (1, .int .i64 a1), (2, .int .i64 a2), (14, .bool (decide (a1 < 0)))]) (by kernel_rfl) (by decide) ?_
    refine WL.split 14 (b := decide (a1 < 0)) (by kernel_rfl) (fun hc => ?_) (fun hc => ?_)
    · replace hc := of_decide_eq_true hc
      rw [if_pos hc] at h
      have hc3 := hc
      clear hc
      refine WL.rest 3 [0, 1, 2, 11] (L' := [(0, .pointer (some ⟨b0, 0, none⟩)), (1, .int .i64 a1), (2, .int .i64 a2), (11, .bool true)]) (by kernel_rfl) ?_
      refine QP.pick [0, 1, 2, 11] ?_
      exact QP.meet ⟨_, Option.some.inj h, rfl, rfl, rfl⟩
    · replace hc := of_decide_eq_false hc
      rw [if_neg hc] at h
      have hc3 := hc
      clear hc
      refine WL.pure 3 7 [0, 1, 2, 14, 15, 18] (L' := [(0, .pointer (some ⟨b0, 0, none⟩)), (1, .int .i64 a1), (2, .int .i64 a2), (14, .bool false), (15, .int .i64 a1), (18, .pointer (some ⟨b0, 0, none⟩))]) (by kernel_rfl) (by decide) ?_
      refine WL.tell (op := .load 25 (.tmp 18)) (ty := 25) (d := some 19) (g := some (2, false)) (by kernel_rfl) (by kernel_rfl) (by kernel_rfl) (Tells.load_box (i := 0) (b := b0) (o := 0) (agg := false) (by rfl) ag25 (by kernel_rfl) (fun _ => rfl) (Nat.le_of_ble_eq_true rfl) (v := .slice Aa0_f0 a0.f0.length ca0_f0) (by kernel_rfl)) ?_
      refine WL.pure 8 12 [0, 1, 2, 23] (L' := [(0, .pointer (some ⟨b0, 0, none⟩)), (1, .int .i64 a1), (2, .int .i64 a2), (23, .bool (decide (a1 ≥ (a0.f0.length : Int))))]) (by kernel_rfl) (by decide) ?_
      refine WL.split 23 (b := decide (a1 ≥ (a0.f0.length : Int))) (by kernel_rfl) (fun hc => ?_) (fun hc => ?_)
      · replace hc := of_decide_eq_true hc
        rw [if_pos hc] at h
        have hc4 := hc
        clear hc
        refine WL.rest 12 [0, 1, 2, 11] (L' := [(0, .pointer (some ⟨b0, 0, none⟩)), (1, .int .i64 a1), (2, .int .i64 a2), (11, .bool true)]) (by kernel_rfl) ?_
        refine QP.pick [0, 1, 2, 11] ?_
        exact QP.meet ⟨_, Option.some.inj h, rfl, rfl, rfl⟩
      · replace hc := of_decide_eq_false hc
        rw [if_neg hc] at h
        have hc4 := hc
        clear hc
        refine WL.pure 12 16 [0, 1, 2, 27] (L' := [(0, .pointer (some ⟨b0, 0, none⟩)), (1, .int .i64 a1), (2, .int .i64 a2), (27, .bool (decide (a2 < 0)))]) (by kernel_rfl) (by decide) ?_
        refine WL.split 27 (b := decide (a2 < 0)) (by kernel_rfl) (fun hc => ?_) (fun hc => ?_)
        · replace hc := of_decide_eq_true hc
          rw [if_pos hc] at h
          have hc5 := hc
          clear hc
          refine WL.rest 16 [0, 1, 2, 11] (L' := [(0, .pointer (some ⟨b0, 0, none⟩)), (1, .int .i64 a1), (2, .int .i64 a2), (11, .bool true)]) (by kernel_rfl) ?_
          refine QP.pick [0, 1, 2, 11] ?_
          exact QP.meet ⟨_, Option.some.inj h, rfl, rfl, rfl⟩
        · replace hc := of_decide_eq_false hc
          rw [if_neg hc] at h
          have hc5 := hc
          clear hc
          refine WL.rest 16 [0, 1, 2, 11] (L' := [(0, .pointer (some ⟨b0, 0, none⟩)), (1, .int .i64 a1), (2, .int .i64 a2), (11, .bool (decide (a2 > 1023)))]) (by kernel_rfl) ?_
          refine QP.pick [0, 1, 2, 11] ?_
          exact QP.meet ⟨_, Option.some.inj h, rfl, rfl, rfl⟩
  · rintro _ _ _ ⟨s1, rfl, rfl, rfl, rfl⟩
    clear h
    replace h := hk2
    refine WP.cond (b := s1) (by kernel_rfl) (fun hc => ?_) (fun hc => ?_)
    · replace hc := hc
      rw [if_pos hc] at h
      have hc6 := hc
      clear hc
      refine WP.seqP [6] (L' := [(6, .int .i64 2)]) (by kernel_rfl) ?_
      refine WP.ret ?_
      refine QP.blockR ?_
      refine QP.thenR ?_
      obtain rfl := Option.some.inj h
      exact QP.returned [6] [.int .i64 2] _ (by kernel_rfl) (by kernel_rfl) (by kernel_rfl) (fun W hI => ⟨_, _, _, rfl, ⟨Aa0_f0, ca0_f0, Ca0_f0, Aa0_f1, ca0_f1, Ca0_f1, Aa0_f2, ca0_f2, Ca0_f2, rfl, Ha0_f0, Ha0_f1, Ha0_f2, rfl, rfl⟩, hI⟩)
    · replace hc := (Bool.eq_false_iff.1 hc)
      rw [if_neg hc] at h
      have hc6 := hc
      clear hc
      refine WP.skip ?_
      refine QP.blockN ?_
      refine QP.next ?_
      refine WP.pick [0, 1, 2] ?_
      refine WP.seqR ?_
      refine WL.pure 0 1 [0, 1, 2, 31] (L' := [(0, .pointer (some ⟨b0, 0, none⟩)), (1, .int .i64 a1), (2, .int .i64 a2), (31, .pointer (some ⟨b0, 0, none⟩))]) (by kernel_rfl) (by decide) ?_
      rw [Option.bind_eq_some_iff] at h
      obtain ⟨t7, ht8, h⟩ := h
      refine WL.op (op := .call { callee := (.value (.func 9)), args := #[(.tmp 31)], argTypes := #[22] }) (ty := 25) (d := some 32) (g := none) (by kernel_rfl) (by kernel_rfl) (by kernel_rfl) (Does.call (f := 9) (args := [.pointer (some ⟨b0, 0, none⟩)]) (by kernel_rfl) (fun W hI => (state_State_W_27_calls a0 b0 Aa0_f0 ca0_f0 Ca0_f0 Ha0_f0 Aa0_f1 ca0_f1 Ca0_f1 Ha0_f1 Aa0_f2 ca0_f2 Ca0_f2 Ha0_f2 t7 ht8 hI))) ?_
      rintro _ _ _ ⟨AR9, cR9, CR9, rfl, HR9, rfl, rfl⟩
      refine WL.restQ 2 [0, 1, 2, 7] (L' := [(0, .pointer (some ⟨b0, 0, none⟩)), (1, .int .i64 a1), (2, .int .i64 a2), (7, .slice AR9 t7.length cR9)]) (by kernel_rfl) ?_
      refine WP.seq ?_
      refine WP.any (N := 18) (S := [⟨some 33, [7], []⟩, ⟨some 34, [1], []⟩, ⟨some 35, [7], []⟩, ⟨some 36, [1], []⟩, ⟨some 37, [35, 36], [2, 3]⟩, ⟨some 38, [37], [4]⟩, ⟨some 39, [2], []⟩, ⟨some 40, [0], []⟩, ⟨some 41, [40], [7]⟩, ⟨some 42, [41], [8]⟩, ⟨some 43, [42], [9]⟩, ⟨some 44, [1], []⟩, ⟨some 45, [43, 44], [10, 11]⟩, ⟨some 46, [45], [12]⟩, ⟨some 47, [39, 46], [6, 13]⟩, ⟨some 48, [38, 47], [5, 14]⟩, ⟨some 49, [33, 34], [0, 1, 2, 3, 4, 5, 6, 7, 8, 9, 10, 11, 12, 13, 14, 15]⟩, ⟨none, [48, 49], [0, 1, 2, 3, 4, 5, 6, 7, 8, 9, 10, 11, 12, 13, 14, 15, 16]⟩]) (kw := 17) (G0 := G) (Γ0 := CR9 :: [(b0, .cells #[.slice Aa0_f0 a0.f0.length ca0_f0, .slice Aa0_f1 a0.f1.length ca0_f1, mpv Aa0_f2] 59 (0, 0))] :: Ca0_f0 :: Ca0_f1 :: Ca0_f2 :: Γ) mo (by kernel_rfl) (fun hS => ?_)
      refine WA.pure [0, 1, 2, 3, 6, 7, 8, 9, 11] [0, 7, 33, 34, 35, 36, 39, 42, 44] (m := 9) (b' := 3023) (L' := [(0, .pointer (some ⟨b0, 0, none⟩)), (7, .slice AR9 t7.length cR9), (33, .slice AR9 t7.length cR9), (34, .int .i64 a1), (35, .slice AR9 t7.length cR9), (36, .int .i64 a1), (39, .int .i64 a2), (42, .pointer (some ⟨b0, 0, none⟩)), (44, .int .i64 a1)]) (by kernel_rfl) (NoPanic.then (NoPanic.body)) Under.refl hS (by kernel_rfl) ?_
      by_cases hb11 : 0 ≤ a1 ∧ a1 < (t7.length : Int)
      case neg => rw [if_neg hb11] at h; cases h
      rw [if_pos hb11] at h
      refine WA.tellD [17] (i := 4) (m := 8) (b' := 3039) (by kernel_rfl) (NoPanic.then (NoPanic.body)) Under.refl hS (by kernel_rfl) (op := .indexAddr 25 (.tmp 35) (.tmp 36)) (ty := 0) (d := some 37) (g := none) (by kernel_rfl) (by kernel_rfl) (by kernel_rfl) (Tells.indexAddr (A := AR9) (n := t7.length) (c := cR9) (k := .i64) (j := a1) (by kernel_rfl) (by kernel_rfl) (HR9.isSome hb11.1 hb11.2) hb11.1 hb11.2 sl25) ?_
      refine WA.tellDE [17] (i := 5) (m := 7) (b' := 3071) (by kernel_rfl) (NoPanic.then (NoPanic.body)) Under.refl hS (by kernel_rfl) (op := .load 3 (.tmp 37)) (ty := 3) (d := some 38) (g := none) (by kernel_rfl) (by kernel_rfl) (by kernel_rfl) (HR9.load (i := 0) rfl (agg := false) hb11.1 hb11.2 0 ag3 (fun _ => rfl) (by kernel_rfl)) ?_
      rintro _ rfl
      refine WA.tellD [17] (i := 10) (m := 6) (b' := 4095) (by kernel_rfl) (NoPanic.then (NoPanic.body)) Under.refl hS (by kernel_rfl) (op := .load 25 (.tmp 42)) (ty := 25) (d := some 43) (g := none) (by kernel_rfl) (by kernel_rfl) (by kernel_rfl) (Tells.load_box (i := 1) (b := b0) (o := 0) (agg := false) (by rfl) ag25 (by kernel_rfl) (fun _ => rfl) (Nat.le_of_ble_eq_true rfl) (v := .slice Aa0_f0 a0.f0.length ca0_f0) (by kernel_rfl)) ?_
      by_cases hb12 : 0 ≤ a1 ∧ a1 < (a0.f0.length : Int)
      case neg => rw [if_neg hb12] at h; cases h
      rw [if_pos hb12] at h
      refine WA.tellD [17] (i := 12) (m := 5) (b' := 8191) (by kernel_rfl) (NoPanic.then (NoPanic.body)) Under.refl hS (by kernel_rfl) (op := .indexAddr 25 (.tmp 43) (.tmp 44)) (ty := 0) (d := some 45) (g := none) (by kernel_rfl) (by kernel_rfl) (by kernel_rfl) (Tells.indexAddr (A := Aa0_f0) (n := a0.f0.length) (c := ca0_f0) (k := .i64) (j := a1) (by kernel_rfl) (by kernel_rfl) (Ha0_f0.isSome hb12.1 hb12.2) hb12.1 hb12.2 sl25) ?_
      refine WA.tellDE [17] (i := 13) (m := 4) (b' := 16383) (by kernel_rfl) (NoPanic.then (NoPanic.body)) Under.refl hS (by kernel_rfl) (op := .load 3 (.tmp 45)) (ty := 3) (d := some 46) (g := none) (by kernel_rfl) (by kernel_rfl) (by kernel_rfl) (Ha0_f0.load (i := 2) rfl (agg := false) hb12.1 hb12.2 0 ag3 (fun _ => rfl) (by kernel_rfl)) ?_
      rintro _ rfl
      refine WA.pure [14, 15] [0, 7, 33, 34, 48] (m := 2) (b' := 65535) (L' := [(0, .pointer (some ⟨b0, 0, none⟩)), (7, .slice AR9 t7.length cR9), (33, .slice AR9 t7.length cR9), (34, .int .i64 a1), (48, .int .i64 (if (if (a0.f0.getD a1.toNat 0) < a2 then (a0.f0.getD a1.toNat 0) else a2) > (t7.getD a1.toNat 0) then (if (a0.f0.getD a1.toNat 0) < a2 then (a0.f0.getD a1.toNat 0) else a2) else (t7.getD a1.toNat 0)))]) (by kernel_rfl) (NoPanic.then (NoPanic.body)) Under.refl hS (by kernel_rfl) ?_
      by_cases hb13 : 0 ≤ a1 ∧ a1 < (t7.length : Int)
      case neg => rw [if_neg hb13] at h; cases h
      rw [if_pos hb13] at h
      refine WA.tellD [17] (i := 16) (m := 1) (b' := 131071) (by kernel_rfl) (NoPanic.then (NoPanic.body)) Under.refl hS (by kernel_rfl) (op := .indexAddr 25 (.tmp 33) (.tmp 34)) (ty := 0) (d := some 49) (g := none) (by kernel_rfl) (by kernel_rfl) (by kernel_rfl) (Tells.indexAddr (A := AR9) (n := t7.length) (c := cR9) (k := .i64) (j := a1) (by kernel_rfl) (by kernel_rfl) (HR9.isSome hb13.1 hb13.2) hb13.1 hb13.2 sl25) ?_
      refine WA.opK (i := 17) (kw' := 18) (m := 0) (b' := 262143) (by kernel_rfl) rfl hS (by kernel_rfl) (op := .store 3 (.tmp 49) (.tmp 48)) (ty := 0) (d := none) (g := none) (by kernel_rfl) (by kernel_rfl) (by kernel_rfl) (Ow.store HR9 (i := 0) rfl hb13.1 hb13.2 (z := (if (if (a0.f0.getD a1.toNat 0) < a2 then (a0.f0.getD a1.toNat 0) else a2) > (t7.getD a1.toNat 0) then (if (a0.f0.getD a1.toNat 0) < a2 then (a0.f0.getD a1.toNat 0) else a2) else (t7.getD a1.toNat 0))) (v := .int .i64 (if (if (a0.f0.getD a1.toNat 0) < a2 then (a0.f0.getD a1.toNat 0) else a2) > (t7.getD a1.toNat 0) then (if (a0.f0.getD a1.toNat 0) < a2 then (a0.f0.getD a1.toNat 0) else a2) else (t7.getD a1.toNat 0))) (by kernel_rfl) (by kernel_rfl) sz3 (by exact rfl)) ?_
      rintro _ _ _ ⟨rfl, rfl, C14, Ho15, rfl⟩
      refine ⟨_, _, Under.refl, ?_⟩
      refine WA.reput 7 (v := .slice AR9 t7.length cR9) (v' := .slice AR9 (t7.set a1.toNat (if (if (a0.f0.getD a1.toNat 0) < a2 then (a0.f0.getD a1.toNat 0) else a2) > (t7.getD a1.toNat 0) then (if (a0.f0.getD a1.toNat 0) < a2 then (a0.f0.getD a1.toNat 0) else a2) else (t7.getD a1.toNat 0))).length cR9) (by kernel_rfl) (by simp only [List.length_set]) ?_
      refine WA.done hS (by kernel_rfl) ?_
      refine QP.pick [0, 7] ?_
      refine QP.next ?_
      obtain ⟨v16, hv17, h⟩ := Option.bind_eq_some_iff.1 h
      replace hv17 := Option.some.inj hv17
      have Hn18 := Ho15
      rw [hv17] at Hn18
      refine WP.reput 7 (v := .slice AR9 (t7.set a1.toNat (if (if (a0.f0.getD a1.toNat 0) < a2 then (a0.f0.getD a1.toNat 0) else a2) > (t7.getD a1.toNat 0) then (if (a0.f0.getD a1.toNat 0) < a2 then (a0.f0.getD a1.toNat 0) else a2) else (t7.getD a1.toNat 0))).length cR9) (v' := .slice AR9 v16.length cR9) (by kernel_rfl) (by subst hv17; rfl) ?_
      refine WP.pick [0, 7] ?_
      refine WP.seqR ?_
      refine WL.pure 0 2 [50, 51] (L' := [(50, .pointer (some ⟨b0, 0, none⟩)), (51, .slice AR9 v16.length cR9)]) (by kernel_rfl) (by decide) ?_
      refine WL.reperm (Γ' := [(b0, .cells #[.slice Aa0_f0 a0.f0.length ca0_f0, .slice Aa0_f1 a0.f1.length ca0_f1, mpv Aa0_f2] 59 (0, 0))] :: Ca0_f0 :: Ca0_f1 :: Ca0_f2 :: C14 :: Γ) (perm_sel [1, 2, 3, 4, 0] (by kernel_rfl) rfl) ?_
      rw [Option.bind_eq_some_iff] at h
      obtain ⟨t19, ht20, h⟩ := h
      refine WL.op (op := .call { callee := (.value (.func 20)), args := #[(.tmp 50), (.tmp 51)], argTypes := #[22, 25] }) (ty := 3) (d := some 52) (g := none) (by kernel_rfl) (by kernel_rfl) (by kernel_rfl) (Does.call (Φ := fun v' G' Γ' => ∃ (AR21p0_0 : Option Addr), ∃ (cR21p0_0 : Nat), ∃ (CR21p0_0 : Chunk), ∃ (AR21p0_1 : Option Addr), ∃ (cR21p0_1 : Nat), ∃ (CR21p0_1 : Chunk), ∃ (AR21p0_2 : Option Addr), ∃ (cR21p0_2 : Nat), ∃ (CR21p0_2 : Chunk), v' = .int .i64 t19.1 ∧ Ow (kInt .i64) G AR21p0_0 cR21p0_0 t19.2.f0 CR21p0_0 ∧ Ow (kInt .i64) G AR21p0_1 cR21p0_1 t19.2.f1 CR21p0_1 ∧ MpF m57 G AR21p0_2 cR21p0_2 t19.2.f2 CR21p0_2 ∧ G = G' ∧ [(b0, .cells #[.slice AR21p0_0 t19.2.f0.length cR21p0_0, .slice AR21p0_1 t19.2.f1.length cR21p0_1, mpv AR21p0_2] 59 (0, 0))] :: CR21p0_0 :: CR21p0_1 :: CR21p0_2 :: C14 :: Γ = Γ') (f := 20) (args := [.pointer (some ⟨b0, 0, none⟩), .slice AR9 v16.length cR9]) (by kernel_rfl) (fun W hI => (Calls.lendN (Φ := fun v' N => ∃ (AR21p0_0 : Option Addr), ∃ (cR21p0_0 : Nat), ∃ (CR21p0_0 : Chunk), ∃ (AR21p0_1 : Option Addr), ∃ (cR21p0_1 : Nat), ∃ (CR21p0_1 : Chunk), ∃ (AR21p0_2 : Option Addr), ∃ (cR21p0_2 : Nat), ∃ (CR21p0_2 : Chunk), v' = .int .i64 t19.1 ∧ Ow (kInt .i64) G AR21p0_0 cR21p0_0 t19.2.f0 CR21p0_0 ∧ Ow (kInt .i64) G AR21p0_1 cR21p0_1 t19.2.f1 CR21p0_1 ∧ MpF m57 G AR21p0_2 cR21p0_2 t19.2.f2 CR21p0_2 ∧ N = [[(b0, .cells #[.slice AR21p0_0 t19.2.f0.length cR21p0_0, .slice AR21p0_1 t19.2.f1.length cR21p0_1, mpv AR21p0_2] 59 (0, 0))], CR21p0_0, CR21p0_1, CR21p0_2]) (H := [[(b0, .cells #[.slice Aa0_f0 a0.f0.length ca0_f0, .slice Aa0_f1 a0.f1.length ca0_f1, mpv Aa0_f2] 59 (0, 0))], Ca0_f0, Ca0_f1, Ca0_f2]) (i := 0) rfl hI (fun _ e l23 nl23 hI => by subst e; exact (((state_State_Raise_calls k a0 v16 b0 Aa0_f0 ca0_f0 Ca0_f0 (Ha0_f0.mono l23) Aa0_f1 ca0_f1 Ca0_f1 (Ha0_f1.mono l23) Aa0_f2 ca0_f2 Ca0_f2 (Ha0_f2.mono l23) AR9 cR9 (Hn18.rdN l23 nl23) t19 ht20 hI)).mono fun _ _ hr => by obtain ⟨_, _, _, rfl, hd, hI⟩ := hr; obtain ⟨AR21p0_0, cR21p0_0, CR21p0_0, AR21p0_1, cR21p0_1, CR21p0_1, AR21p0_2, cR21p0_2, CR21p0_2, rfl, HR21p0_0, HR21p0_1, HR21p0_2, rfl, rfl⟩ := hd; exact ⟨_, _, _, rfl, ⟨[[(b0, .cells #[.slice AR21p0_0 t19.2.f0.length cR21p0_0, .slice AR21p0_1 t19.2.f1.length cR21p0_1, mpv AR21p0_2] 59 (0, 0))], CR21p0_0, CR21p0_1, CR21p0_2], ⟨AR21p0_0, cR21p0_0, CR21p0_0, AR21p0_1, cR21p0_1, CR21p0_1, AR21p0_2, cR21p0_2, CR21p0_2, rfl, (HR21p0_0.flat (kInt_flat _)), (HR21p0_1.flat (kInt_flat _)), (HR21p0_2.flat ()), rfl⟩, rfl, rfl⟩, hI⟩))).mono fun _ _ hr => by obtain ⟨_, _, _, rfl, ⟨_, hd, rfl, rfl⟩, hI⟩ := hr; obtain ⟨AR21p0_0, cR21p0_0, CR21p0_0, AR21p0_1, cR21p0_1, CR21p0_1, AR21p0_2, cR21p0_2, CR21p0_2, rfl, HR21p0_0, HR21p0_1, HR21p0_2, rfl⟩ := hd; exact ⟨_, _, _, rfl, ⟨AR21p0_0, cR21p0_0, CR21p0_0, AR21p0_1, cR21p0_1, CR21p0_1, AR21p0_2, cR21p0_2, CR21p0_2, rfl, HR21p0_0, HR21p0_1, HR21p0_2, rfl, rfl⟩, hI⟩)) ?_
      rintro _ _ _ ⟨AR21p0_0, cR21p0_0, CR21p0_0, AR21p0_1, cR21p0_1, CR21p0_1, AR21p0_2, cR21p0_2, CR21p0_2, rfl, HR21p0_0, HR21p0_1, HR21p0_2, rfl, rfl⟩
      refine WL.restQ 3 [] (L' := []) (by kernel_rfl) ?_
      refine WP.dropAt 4 ?_
      refine WP.seqP [6] (L' := [(6, .int .i64 0)]) (by kernel_rfl) ?_
      refine WP.ret ?_
      obtain rfl := Option.some.inj h
      exact QP.returned [6] [.int .i64 0] _ (by kernel_rfl) (by kernel_rfl) (by kernel_rfl) (fun W hI => ⟨_, _, _, rfl, ⟨AR21p0_0, cR21p0_0, CR21p0_0, AR21p0_1, cR21p0_1, CR21p0_1, AR21p0_2, cR21p0_2, CR21p0_2, rfl, HR21p0_0, HR21p0_1, HR21p0_2, rfl, rfl⟩, hI⟩)

/-! ### maps.Clone[map[grapevine/api.Key]grapevine/api.Record,grapevine/api.Key,grapevine/api.Record]: function 27 -/
def maps_Clone (l0 : (T34 → Option T38)) : Option (T34 → Option T38) := some l0
set_option maxHeartbeats 4000000 in
theorem maps_Clone_calls {B : World} {G : GMap} {Γ : List Chunk} {W : World} (l0 : (T34 → Option T38)) (Al0 : Option Addr) (cl0 : Nat) (Cl0 : Chunk) (Hl0 : MpF m57 G Al0 cl0 l0 Cl0) (r : (T34 → Option T38)) (h : maps_Clone l0 = some r) (hI : Inv B G ([] :: Cl0 :: Γ) W) :
    Calls Tryz.prog 27 [mpv Al0].toArray W (Ret B (fun v G' Γ' => ∃ (AR : Option Addr), ∃ (cR : Nat), ∃ (CR : Chunk), v = mpv AR ∧ MpF m57 G' AR cR r CR ∧ G = G' ∧ CR :: [] :: Cl0 :: Γ = Γ')) := by
  obtain rfl := Option.some.inj h
  obtain ⟨b, rfl⟩ := Hl0.at
  refine calls_WP (Γ := [] :: Cl0 :: Γ) (G := G) (B := B) Tryz.func27 rfl (by kernel_rfl) ?_ hI
  clear hI
  refine WP.seqP [0] (L' := [(0, .map (some b))]) (by kernel_rfl) ?_
  refine WP.seq ?_
  refine WP.seqP [0, 4] (L' := [(0, .map (some b)), (4, .bool false)]) (by kernel_rfl) ?_
  refine WP.no (by kernel_rfl) ?_
  refine WP.skip ?_
  refine QP.next ?_
  refine WP.pick [0] ?_
  refine WP.seqR ?_
  refine WL.pure 0 2 [6] (L' := [(6, .iface 57 (.map (some b)))]) (by kernel_rfl) (by decide) ?_
  refine WL.op (op := .call { callee := (.value (.func 48)), args := #[(.tmp 6)], argTypes := #[20] }) (ty := 20) (d := some 7) (g := none) (by kernel_rfl) (by kernel_rfl) (by kernel_rfl) (Does.mapClone (f := 48) Tryz.func48 (by kernel_rfl) (by kernel_rfl) (by kernel_rfl) (by kernel_rfl) (by kernel_rfl) Hl0 (i := 1) rfl (t := 57)) ?_
  rintro _ _ _ ⟨b2, C2, rfl, H2, rfl, rfl⟩
  refine WL.restQ 3 [2] (L' := [(2, .map (some b2))]) (by kernel_rfl) ?_
  refine WP.ret ?_
  exact QP.returned [2] [.map (some b2)] _ (by kernel_rfl) (by kernel_rfl) (by kernel_rfl) (fun W hI => ⟨_, _, _, rfl, ⟨_, _, C2, rfl, H2, rfl, rfl⟩, hI⟩)

/-! ### (*grapevine/state.State).Copy: function 13 -/
def state_State_Copy_39 (a0 : T59) : Option T59 := ((state_State_V_30 a0).bind fun t1 => ((state_State_W_27 a0).bind fun t5 => ((maps_Clone a0.f2).bind fun t9 => some (⟨t1, t5, t9⟩ : T59))))
set_option maxHeartbeats 4000000 in
theorem state_State_Copy_39_calls {B : World} {G : GMap} {Γ : List Chunk} {W : World} (a0 : T59) (b0 : Nat) (Aa0_f0 : Option Addr) (ca0_f0 : Nat) (Ca0_f0 : Chunk) (Ha0_f0 : Ow (kInt .i64) G Aa0_f0 ca0_f0 a0.f0 Ca0_f0) (Aa0_f1 : Option Addr) (ca0_f1 : Nat) (Ca0_f1 : Chunk) (Ha0_f1 : Ow (kInt .i64) G Aa0_f1 ca0_f1 a0.f1 Ca0_f1) (Aa0_f2 : Option Addr) (ca0_f2 : Nat) (Ca0_f2 : Chunk) (Ha0_f2 : MpF m57 G Aa0_f2 ca0_f2 a0.f2 Ca0_f2) (r : T59) (h : state_State_Copy_39 a0 = some r) (hI : Inv B G ([(b0, .cells #[.slice Aa0_f0 a0.f0.length ca0_f0, .slice Aa0_f1 a0.f1.length ca0_f1, mpv Aa0_f2] 59 (0, 0))] :: Ca0_f0 :: Ca0_f1 :: Ca0_f2 :: Γ) W) :
    Calls Tryz.prog 13 [.pointer (some ⟨b0, 0, none⟩)].toArray W (Ret B (fun v G' Γ' => ∃ (bR : Nat), ∃ (AR_0 : Option Addr), ∃ (cR_0 : Nat), ∃ (CR_0 : Chunk), ∃ (AR_1 : Option Addr), ∃ (cR_1 : Nat), ∃ (CR_1 : Chunk), ∃ (AR_2 : Option Addr), ∃ (cR_2 : Nat), ∃ (CR_2 : Chunk), v = .pointer (some ⟨bR, 0, none⟩) ∧ Ow (kInt .i64) G' AR_0 cR_0 r.f0 CR_0 ∧ Ow (kInt .i64) G' AR_1 cR_1 r.f1 CR_1 ∧ MpF m57 G' AR_2 cR_2 r.f2 CR_2 ∧ G = G' ∧ [(bR, .cells #[.slice AR_0 r.f0.length cR_0, .slice AR_1 r.f1.length cR_1, mpv AR_2] 59 (0, 0))] :: CR_0 :: CR_1 :: CR_2 :: [(b0, .cells #[.slice Aa0_f0 a0.f0.length ca0_f0, .slice Aa0_f1 a0.f1.length ca0_f1, mpv Aa0_f2] 59 (0, 0))] :: Ca0_f0 :: Ca0_f1 :: Ca0_f2 :: Γ = Γ')) := by
  refine calls_WP (Γ := [(b0, .cells #[.slice Aa0_f0 a0.f0.length ca0_f0, .slice Aa0_f1 a0.f1.length ca0_f1, mpv Aa0_f2] 59 (0, 0))] :: Ca0_f0 :: Ca0_f1 :: Ca0_f2 :: Γ) (G := G) (B := B) Tryz.func13 rfl (by kernel_rfl) ?_ hI
  clear hI
  unfold state_State_Copy_39 at h
  refine WP.seqP [0] (L' := [(0, .pointer (some ⟨b0, 0, none⟩))]) (by kernel_rfl) ?_
  refine WP.seq ?_
  refine WP.seqP [0, 4] (L' := [(0, .pointer (some ⟨b0, 0, none⟩)), (4, .bool false)]) (by kernel_rfl) ?_
  refine WP.no (by kernel_rfl) ?_
  refine WP.skip ?_
  refine QP.next ?_
  refine WP.pick [0] ?_
  refine WP.seq ?_
  refine WP.any (N := 12) (S := [⟨some 5, [0], []⟩, ⟨some 6, [5], [0]⟩, ⟨some 7, [0], []⟩, ⟨some 8, [7], [1, 2]⟩, ⟨some 9, [0], []⟩, ⟨some 10, [9], [4]⟩, ⟨some 11, [10], [5]⟩, ⟨some 12, [11], [6]⟩, ⟨some 13, [12], [3, 7]⟩, ⟨some 14, [6, 8, 13], [1, 3, 8]⟩, ⟨some 15, [14], [9]⟩, ⟨some 2, [15], [0, 1, 2, 3, 4, 5, 6, 7, 8, 9, 10]⟩]) (kw := 12) (G0 := G) (Γ0 := [(b0, .cells #[.slice Aa0_f0 a0.f0.length ca0_f0, .slice Aa0_f1 a0.f1.length ca0_f1, mpv Aa0_f2] 59 (0, 0))] :: Ca0_f0 :: Ca0_f1 :: Ca0_f2 :: Γ) mo (by kernel_rfl) (fun hS => ?_)
  refine WA.pure [0, 2, 4, 5, 6] [5, 7, 11] (m := 7) (b' := 117) (L' := [(5, .pointer (some ⟨b0, 0, none⟩)), (7, .pointer (some ⟨b0, 0, none⟩)), (11, .pointer (some ⟨b0, 2, none⟩))]) (by kernel_rfl) (NoPanic.then (NoPanic.body)) Under.refl hS (by kernel_rfl) ?_
  refine WA.tellD [] (i := 7) (m := 6) (b' := 245) (by kernel_rfl) (NoPanic.then (NoPanic.body)) Under.refl hS (by kernel_rfl) (op := .load 57 (.tmp 11)) (ty := 57) (d := some 12) (g := none) (by kernel_rfl) (by kernel_rfl) (by kernel_rfl) (Tells.load_box (i := 0) (b := b0) (o := 2) (agg := false) (by rfl) ag57 (by kernel_rfl) (fun _ => rfl) (Nat.le_of_ble_eq_true rfl) (v := mpv Aa0_f2) (by kernel_rfl)) ?_
  refine WA.front (i := 3) rfl ?_
  refine WA.front (i := 3) rfl ?_
  refine WA.front (i := 3) rfl ?_
  refine WA.front (i := 3) rfl ?_
  rw [Option.bind_eq_some_iff] at h
  obtain ⟨t1, ht2, h⟩ := h
  refine WA.op (i := 1) (m := 5) (b' := 247) (by kernel_rfl) hS (by kernel_rfl) (op := .call { callee := (.value (.func 8)), args := #[(.tmp 5)], argTypes := #[22] }) (ty := 25) (d := some 6) (g := none) (by kernel_rfl) (by kernel_rfl) (by kernel_rfl) (Does.call (f := 8) (args := [.pointer (some ⟨b0, 0, none⟩)]) (by kernel_rfl) (fun W hI => (state_State_V_30_calls a0 b0 Aa0_f0 ca0_f0 Ca0_f0 Ha0_f0 Aa0_f1 ca0_f1 Ca0_f1 Ha0_f1 Aa0_f2 ca0_f2 Ca0_f2 Ha0_f2 t1 ht2 hI))) ?_
  rintro _ _ _ ⟨AR3, cR3, CR3, rfl, HR3, rfl, rfl⟩
  refine ⟨_, _, (Under.trans (Under.front (i := 3) rfl (Under.front (i := 3) rfl (Under.front (i := 3) rfl (Under.front (i := 3) rfl (Under.refl))))) (Under.cons (Under.refl))), Under.refl, ?_⟩
  refine WA.front (i := 4) rfl ?_
  refine WA.front (i := 4) rfl ?_
  refine WA.front (i := 4) rfl ?_
  refine WA.front (i := 4) rfl ?_
  rw [Option.bind_eq_some_iff] at h
  obtain ⟨t5, ht6, h⟩ := h
  refine WA.op (i := 3) (m := 4) (b' := 255) (by kernel_rfl) hS (by kernel_rfl) (op := .call { callee := (.value (.func 9)), args := #[(.tmp 7)], argTypes := #[22] }) (ty := 25) (d := some 8) (g := none) (by kernel_rfl) (by kernel_rfl) (by kernel_rfl) (Does.call (f := 9) (args := [.pointer (some ⟨b0, 0, none⟩)]) (by kernel_rfl) (fun W hI => (state_State_W_27_calls a0 b0 Aa0_f0 ca0_f0 Ca0_f0 Ha0_f0 Aa0_f1 ca0_f1 Ca0_f1 Ha0_f1 Aa0_f2 ca0_f2 Ca0_f2 Ha0_f2 t5 ht6 hI))) ?_
  rintro _ _ _ ⟨AR7, cR7, CR7, rfl, HR7, rfl, rfl⟩
  refine ⟨_, _, (Under.trans (Under.front (i := 4) rfl (Under.front (i := 4) rfl (Under.front (i := 4) rfl (Under.front (i := 4) rfl (Under.refl))))) (Under.cons (Under.refl))), Under.refl, ?_⟩
  refine WA.addNil ?_
  refine WA.front (i := 5) rfl ?_
  refine WA.front (i := 1) rfl ?_
  rw [Option.bind_eq_some_iff] at h
  obtain ⟨t9, ht10, h⟩ := h
  refine WA.op (i := 8) (m := 3) (b' := 511) (by kernel_rfl) hS (by kernel_rfl) (op := .call { callee := (.value (.func 27)), args := #[(.tmp 12)], argTypes := #[57] }) (ty := 57) (d := some 13) (g := none) (by kernel_rfl) (by kernel_rfl) (by kernel_rfl) (Does.call (f := 27) (args := [mpv Aa0_f2]) (by kernel_rfl) (fun W hI => (maps_Clone_calls a0.f2 Aa0_f2 ca0_f2 Ca0_f2 Ha0_f2 t9 ht10 hI))) ?_
  rintro _ _ _ ⟨AR12, cR12, CR12, rfl, HR12, rfl, rfl⟩
  refine ⟨_, _, (Under.trans (Under.front (i := 1) rfl (Under.front (i := 5) rfl (Under.cons (Under.refl)))) (Under.cons (Under.refl))), Under.refl, ?_⟩
  refine WA.pure [9] [14] (m := 2) (b' := 1023) (L' := [(14, .agg #[.slice AR3 t1.length cR3, .slice AR7 t5.length cR7, mpv AR12])]) (by kernel_rfl) (NoPanic.then (NoPanic.body)) Under.refl hS (by kernel_rfl) ?_
  refine WA.op (i := 10) (m := 1) (b' := 2047) (by kernel_rfl) hS (by kernel_rfl) (op := .box 59 (.tmp 14)) (ty := 22) (d := some 15) (g := none) (by kernel_rfl) (by kernel_rfl) (by kernel_rfl) (Does.new (o := .cells #[.slice AR3 t1.length cR3, .slice AR7 t5.length cR7, mpv AR12] 59 (0, 0)) (v := fun r => .pointer (some ⟨r, 0, none⟩)) (fun r => by kernel_rfl)) ?_
  rintro _ _ _ ⟨b14, rfl, rfl, rfl⟩
  refine ⟨_, _, Under.cons Under.refl, Under.refl, ?_⟩
  refine WA.pure [11] [2] (m := 0) (b' := 4095) (L' := [(2, .pointer (some ⟨b14, 0, none⟩))]) (by kernel_rfl) (NoPanic.then (NoPanic.body)) Under.refl hS (by kernel_rfl) ?_
  refine WA.done hS (by kernel_rfl) ?_
  refine QP.pick [2] ?_
  refine QP.next ?_
  refine WP.dropAt 2 ?_
  refine WP.ret ?_
  obtain rfl := Option.some.inj h
  refine QP.reperm (Γ' := [(b14, .cells #[.slice AR3 t1.length cR3, .slice AR7 t5.length cR7, mpv AR12] 59 (0, 0))] :: CR3 :: CR7 :: CR12 :: [(b0, .cells #[.slice Aa0_f0 a0.f0.length ca0_f0, .slice Aa0_f1 a0.f1.length ca0_f1, mpv Aa0_f2] 59 (0, 0))] :: Ca0_f0 :: Ca0_f1 :: Ca0_f2 :: Γ) (perm_sel [0, 7, 3, 1, 4, 5, 6, 2] (by kernel_rfl) rfl) ?_
  exact QP.returned [2] [.pointer (some ⟨b14, 0, none⟩)] _ (by kernel_rfl) (by kernel_rfl) (by kernel_rfl) (fun W hI => ⟨_, _, _, rfl, ⟨b14, AR3, cR3, CR3, AR7, cR7, CR7, AR12, cR12, CR12, rfl, HR3, HR7, HR12, rfl, rfl⟩, hI⟩)

/-! ### slices.Equal[[]int,int]: function 50 -/
def slices_Equal_l0 (l0 : List Int) (l1 : List Int) : Nat → Int → Option (Sum Bool Unit)
  | 0, _ => none
  | k + 1, y4 => (if y4 < (l0.length : Int) then (if 0 ≤ y4 ∧ y4 < (l0.length : Int) then (if 0 ≤ y4 ∧ y4 < (l1.length : Int) then (if ¬ (l0.getD y4.toNat 0) = (l1.getD y4.toNat 0) then some (Sum.inl false) else slices_Equal_l0 l0 l1 k (IntKind.i64.wrap (y4 + 1))) else none) else none) else some (Sum.inr ()))
def slices_Equal (k : Nat) (l0 : List Int) (l1 : List Int) : Option Bool := (if ¬ (l0.length : Int) = (l1.length : Int) then some false else ((slices_Equal_l0 l0 l1 k 0).bind fun os2 => match os2 with | Sum.inl r => some r | Sum.inr s2 => some true))
set_option maxHeartbeats 4000000 in
theorem slices_Equal_calls {B : World} {G : GMap} {Γ : List Chunk} {W : World} (k : Nat) (l0 : List Int) (l1 : List Int) (Al0 : Option Addr) (cl0 : Nat) (Hl0 : Rd (kInt .i64) G Al0 cl0 l0) (Al1 : Option Addr) (cl1 : Nat) (Hl1 : Rd (kInt .i64) G Al1 cl1 l1) (r : Bool) (h : slices_Equal k l0 l1 = some r) (hI : Inv B G (Γ) W) :
    Calls Tryz.prog 50 [.slice Al0 l0.length cl0, .slice Al1 l1.length cl1].toArray W (Ret B (fun v G' Γ' => v = .bool r ∧ G = G' ∧ Γ = Γ')) := by
  refine calls_WP (Γ := Γ) (G := G) (B := B) Tryz.func50 rfl (by kernel_rfl) ?_ hI
  clear hI
  unfold slices_Equal at h
  refine WP.seqP [0, 1] (L' := [(0, .slice Al0 l0.length cl0), (1, .slice Al1 l1.length cl1)]) (by kernel_rfl) ?_
  refine WP.seq ?_
  refine WP.seqP [0, 1, 10] (L' := [(0, .slice Al0 l0.length cl0), (1, .slice Al1 l1.length cl1), (10, .bool ((l0.length : Int) != (l1.length : Int)))]) (by kernel_rfl) ?_
  refine WP.cond (b := ((l0.length : Int) != (l1.length : Int))) (by kernel_rfl) (fun hc => ?_) (fun hc => ?_)
  · replace hc := (bne_iff_ne.1 hc)
    rw [if_pos hc] at h
    have hc1 := hc
    clear hc
    refine WP.seqP [4] (L' := [(4, .bool false)]) (by kernel_rfl) ?_
    refine WP.ret ?_
    refine QP.thenR ?_
    obtain rfl := Option.some.inj h
    exact QP.returned [4] [.bool false] _ (by kernel_rfl) (by kernel_rfl) (by kernel_rfl) (fun W hI => ⟨_, _, _, rfl, ⟨rfl, rfl, rfl⟩, hI⟩)
  · replace hc := (not_not_intro (bne_eq_false_iff_eq.1 hc))
    rw [if_neg hc] at h
    have hc1 := hc
    clear hc
    refine WP.skip ?_
    refine QP.next ?_
    refine WP.pick [0, 1] ?_
    refine WP.seq ?_
    refine WP.seqP [0, 1, 12, 13] (L' := [(0, .slice Al0 l0.length cl0), (1, .slice Al1 l1.length cl1), (12, .int .i64 (l0.length : Int)), (13, .int .i64 0)]) (by kernel_rfl) ?_
    rw [Option.bind_eq_some_iff] at h
    obtain ⟨os2, h, hk3⟩ := h
    refine WP.cutQ (fun L' G' Γ' => ∃ s2 : Unit, Sum.inr s2 = os2 ∧ L' = [] ∧ G = G' ∧ Γ = Γ') ?_ ?_
    · skip
      refine WP.block ?_
      refine WP.pick [0, 1, 12, 13] ?_
      refine WP.loopF (fun kn5 L' G' Γ' => ∃ (y4 : Int), slices_Equal_l0 l0 l1 kn5 y4 = some os2 ∧ L' = [(0, .slice Al0 l0.length cl0), (1, .slice Al1 l1.length cl1), (12, .int .i64 (l0.length : Int)), (13, .int .i64 y4)] ∧ G = G' ∧ Γ = Γ') ?_ k ⟨0, h, rfl, rfl, rfl⟩
      clear h
      rintro kn6 _ _ _ ⟨y4, h, rfl, rfl, rfl⟩
      cases kn6 with
      | zero => exact absurd h (by simp [slices_Equal_l0])
      | succ kn6 =>
        simp only [slices_Equal_l0] at h
        refine WP.seqP [0, 1, 12, 13, 14] (L' := [(0, .slice Al0 l0.length cl0), (1, .slice Al1 l1.length cl1), (12, .int .i64 (l0.length : Int)), (13, .int .i64 y4), (14, .bool (decide (y4 < (l0.length : Int))))]) (by kernel_rfl) ?_
        refine WP.seq ?_
        refine WP.cond (b := decide (y4 < (l0.length : Int))) (by kernel_rfl) (fun hc => ?_) (fun hc => ?_)
        · replace hc := of_decide_eq_true hc
          rw [if_pos hc] at h
          have hc7 := hc
          clear hc
          refine WP.skip ?_
          refine QP.next ?_
          refine WP.pick [0, 1, 12, 13] ?_
          refine WP.seq ?_
          refine WP.block ?_
          refine WP.seqP [0, 1, 5, 12, 13] (L' := [(0, .slice Al0 l0.length cl0), (1, .slice Al1 l1.length cl1), (5, .int .i64 y4), (12, .int .i64 (l0.length : Int)), (13, .int .i64 y4)]) (by kernel_rfl) ?_
          refine WP.seq ?_
          refine WP.any (N := 9) (S := [⟨some 16, [0], []⟩, ⟨some 17, [5], []⟩, ⟨some 18, [16, 17], [0, 1]⟩, ⟨some 19, [18], [2]⟩, ⟨some 20, [1], []⟩, ⟨some 21, [5], []⟩, ⟨some 22, [20, 21], [4, 5]⟩, ⟨some 23, [22], [6]⟩, ⟨some 24, [19, 23], [3, 7]⟩]) (kw := 9) (G0 := G) (Γ0 := Γ) mo (by kernel_rfl) (fun hS => ?_)
          refine WA.pure [0, 1, 4, 5] [0, 1, 12, 13, 16, 17, 20, 21] (m := 5) (b' := 51) (L' := [(0, .slice Al0 l0.length cl0), (1, .slice Al1 l1.length cl1), (12, .int .i64 (l0.length : Int)), (13, .int .i64 y4), (16, .slice Al0 l0.length cl0), (17, .int .i64 y4), (20, .slice Al1 l1.length cl1), (21, .int .i64 y4)]) (by kernel_rfl) (NoPanic.then (NoPanic.block (NoPanic.then (NoPanic.then (NoPanic.block (NoPanic.then (NoPanic.then (NoPanic.body)))))))) Under.refl hS (by kernel_rfl) ?_
          by_cases hb8 : 0 ≤ y4 ∧ y4 < (l0.length : Int)
          case neg => rw [if_neg hb8] at h; cases h
          rw [if_pos hb8] at h
          refine WA.tellD [] (i := 2) (m := 4) (b' := 55) (by kernel_rfl) (NoPanic.then (NoPanic.block (NoPanic.then (NoPanic.then (NoPanic.block (NoPanic.then (NoPanic.then (NoPanic.body)))))))) Under.refl hS (by kernel_rfl) (op := .indexAddr 25 (.tmp 16) (.tmp 17)) (ty := 0) (d := some 18) (g := none) (by kernel_rfl) (by kernel_rfl) (by kernel_rfl) (Tells.indexAddr (A := Al0) (n := l0.length) (c := cl0) (k := .i64) (j := y4) (by kernel_rfl) (by kernel_rfl) (Hl0.isSome hb8.1 hb8.2) hb8.1 hb8.2 sl25) ?_
          refine WA.tellDE [] (i := 3) (m := 3) (b' := 63) (by kernel_rfl) (NoPanic.then (NoPanic.block (NoPanic.then (NoPanic.then (NoPanic.block (NoPanic.then (NoPanic.then (NoPanic.body)))))))) Under.refl hS (by kernel_rfl) (op := .load 3 (.tmp 18)) (ty := 3) (d := some 19) (g := none) (by kernel_rfl) (by kernel_rfl) (by kernel_rfl) (Hl0.load (agg := false) hb8.1 hb8.2 0 ag3 (fun _ => rfl) (by kernel_rfl)) ?_
          rintro _ rfl
          by_cases hb9 : 0 ≤ y4 ∧ y4 < (l1.length : Int)
          case neg => rw [if_neg hb9] at h; cases h
          rw [if_pos hb9] at h
          refine WA.tellD [] (i := 6) (m := 2) (b' := 127) (by kernel_rfl) (NoPanic.then (NoPanic.block (NoPanic.then (NoPanic.then (NoPanic.block (NoPanic.then (NoPanic.then (NoPanic.body)))))))) Under.refl hS (by kernel_rfl) (op := .indexAddr 25 (.tmp 20) (.tmp 21)) (ty := 0) (d := some 22) (g := none) (by kernel_rfl) (by kernel_rfl) (by kernel_rfl) (Tells.indexAddr (A := Al1) (n := l1.length) (c := cl1) (k := .i64) (j := y4) (by kernel_rfl) (by kernel_rfl) (Hl1.isSome hb9.1 hb9.2) hb9.1 hb9.2 sl25) ?_
          refine WA.tellDE [] (i := 7) (m := 1) (b' := 255) (by kernel_rfl) (NoPanic.then (NoPanic.block (NoPanic.then (NoPanic.then (NoPanic.block (NoPanic.then (NoPanic.then (NoPanic.body)))))))) Under.refl hS (by kernel_rfl) (op := .load 3 (.tmp 22)) (ty := 3) (d := some 23) (g := none) (by kernel_rfl) (by kernel_rfl) (by kernel_rfl) (Hl1.load (agg := false) hb9.1 hb9.2 0 ag3 (fun _ => rfl) (by kernel_rfl)) ?_
          rintro _ rfl
          refine WA.pure [8] [0, 1, 12, 13, 24] (m := 0) (b' := 511) (L' := [(0, .slice Al0 l0.length cl0), (1, .slice Al1 l1.length cl1), (12, .int .i64 (l0.length : Int)), (13, .int .i64 y4), (24, .bool ((l0.getD y4.toNat 0) != (l1.getD y4.toNat 0)))]) (by kernel_rfl) (NoPanic.then (NoPanic.block (NoPanic.then (NoPanic.then (NoPanic.block (NoPanic.then (NoPanic.then (NoPanic.body)))))))) Under.refl hS (by kernel_rfl) ?_
          refine WA.done hS (by kernel_rfl) ?_
          refine QP.pick [0, 1, 12, 13, 24] ?_
          refine QP.next ?_
          refine WP.cond (b := ((l0.getD y4.toNat 0) != (l1.getD y4.toNat 0))) (by kernel_rfl) (fun hc => ?_) (fun hc => ?_)
          · replace hc := (bne_iff_ne.1 hc)
            rw [if_pos hc] at h
            have hc10 := hc
            clear hc
            refine WP.seqP [4] (L' := [(4, .bool false)]) (by kernel_rfl) ?_
            refine WP.ret ?_
            refine QP.blockR ?_
            refine QP.thenR ?_
            refine QP.thenR ?_
            refine QP.blockR ?_
            refine QP.thenR ?_
            refine QP.thenR ?_
            obtain rfl := Option.some.inj h
            obtain rfl := Option.some.inj (show some _ = some _ from hk3)
            exact QP.returned [4] [.bool false] _ (by kernel_rfl) (by kernel_rfl) (by kernel_rfl) (fun W hI => ⟨_, _, _, rfl, ⟨rfl, rfl, rfl⟩, hI⟩)
          · replace hc := (not_not_intro (bne_eq_false_iff_eq.1 hc))
            rw [if_neg hc] at h
            have hc10 := hc
            clear hc
            refine WP.skip ?_
            refine QP.blockN ?_
            refine QP.next ?_
            refine WP.pick [0, 1, 12, 13] ?_
            refine WP.regionP [0, 1, 12, 13] (L' := [(0, .slice Al0 l0.length cl0), (1, .slice Al1 l1.length cl1), (12, .int .i64 (l0.length : Int)), (13, .int .i64 (IntKind.i64.wrap (y4 + 1)))]) (by kernel_rfl) ?_
            refine QP.pick [0, 1, 12, 13] ?_
            exact QP.meet ⟨kn6, Nat.lt_succ_self _, (IntKind.i64.wrap (y4 + 1)), h, rfl, rfl, rfl⟩
        · replace hc := of_decide_eq_false hc
          rw [if_neg hc] at h
          have hc7 := hc
          clear hc
          refine WP.exit ?_
          refine QP.thenE ?_
          refine QP.thenE ?_
          refine QP.blockE ?_
          refine QP.pick [] ?_
          exact QP.meet ⟨_, Option.some.inj h, rfl, rfl, rfl⟩
    · rintro _ _ _ ⟨s2, rfl, rfl, rfl, rfl⟩
      clear h
      replace h := hk3
      dsimp only at h
      refine QP.next ?_
      refine WP.pick [] ?_
      refine WP.seqP [4] (L' := [(4, .bool true)]) (by kernel_rfl) ?_
      refine WP.ret ?_
      obtain rfl := Option.some.inj h
      exact QP.returned [4] [.bool true] _ (by kernel_rfl) (by kernel_rfl) (by kernel_rfl) (fun W hI => ⟨_, _, _, rfl, ⟨rfl, rfl, rfl⟩, hI⟩)

/-! ### maps.Equal[map[grapevine/api.Key]grapevine/api.Record,map[grapevine/api.Key]grapevine/api.Record,grapevine/api.Key,grapevine/api.Record]: function 51 -/
noncomputable def maps_Equal_l0 (l0 : (T34 → Option T38)) (l1 : (T34 → Option T38)) : Nat → (List T34) → Option (Sum Bool Unit)
  | 0, _ => none
  | k + 1, y5 => (pickF l0 y5 (some (Sum.inr ())) (fun an8 => fun en8 => ((if (!((l1 an8).isSome)) = true then some true else some (!decide (en8 = ((l1 an8).getD z38)))).bind fun s12 => (if s12 = true then some (Sum.inl false) else maps_Equal_l0 l0 l1 k (an8 :: y5)))))
noncomputable def maps_Equal (k : Nat) (l0 : (T34 → Option T38)) (l1 : (T34 → Option T38)) : Option Bool := (if ¬ (mlen l0 : Int) = (mlen l1 : Int) then some false else ((maps_Equal_l0 l0 l1 k ([] : List T34)).bind fun os3 => match os3 with | Sum.inl r => some r | Sum.inr s3 => some true))
set_option maxHeartbeats 4000000 in
theorem maps_Equal_calls {B : World} {G : GMap} {Γ : List Chunk} {W : World} (k : Nat) (l0 : (T34 → Option T38)) (l1 : (T34 → Option T38)) (Al0 : Option Addr) (cl0 : Nat) (Cl0 : Chunk) (Hl0 : MpF m57 G Al0 cl0 l0 Cl0) (Al1 : Option Addr) (cl1 : Nat) (Cl1 : Chunk) (Hl1 : MpF m57 G Al1 cl1 l1 Cl1) (r : Bool) (h : maps_Equal k l0 l1 = some r) (hI : Inv B G ([] :: Cl0 :: [] :: Cl1 :: Γ) W) :
    Calls Tryz.prog 51 [mpv Al0, mpv Al1].toArray W (Ret B (fun v G' Γ' => v = .bool r ∧ G = G' ∧ [] :: Cl0 :: [] :: Cl1 :: Γ = Γ')) := by
  refine calls_WP (Γ := [] :: Cl0 :: [] :: Cl1 :: Γ) (G := G) (B := B) Tryz.func51 rfl (by kernel_rfl) ?_ hI
  clear hI
  unfold maps_Equal at h
  refine WP.seqP [0, 1] (L' := [(0, mpv Al0), (1, mpv Al1)]) (by kernel_rfl) ?_
  refine WP.seq ?_
  refine WP.seqR ?_
  refine WL.pure 0 1 [0, 1, 9] (L' := [(0, mpv Al0), (1, mpv Al1), (9, mpv Al0)]) (by kernel_rfl) (by decide) ?_
  refine WL.tell (op := .call { callee := (.builtin .len), args := #[(.tmp 9)], argTypes := #[57] }) (ty := 3) (d := some 10) (g := none) (by kernel_rfl) (by kernel_rfl) (by kernel_rfl) (Tells.mapLenF mt57 Hl0 (i := 1) rfl (by kernel_rfl)) ?_
  refine WL.pure 2 3 [0, 1, 10, 11] (L' := [(0, mpv Al0), (1, mpv Al1), (10, .int .i64 (mlen l0 : Int)), (11, mpv Al1)]) (by kernel_rfl) (by decide) ?_
  refine WL.tell (op := .call { callee := (.builtin .len), args := #[(.tmp 11)], argTypes := #[57] }) (ty := 3) (d := some 12) (g := none) (by kernel_rfl) (by kernel_rfl) (by kernel_rfl) (Tells.mapLenF mt57 Hl1 (i := 3) rfl (by kernel_rfl)) ?_
  refine WL.restQ 4 [0, 1, 13] (L' := [(0, mpv Al0), (1, mpv Al1), (13, .bool ((mlen l0 : Int) != (mlen l1 : Int)))]) (by kernel_rfl) ?_
  refine WP.cond (b := ((mlen l0 : Int) != (mlen l1 : Int))) (by kernel_rfl) (fun hc => ?_) (fun hc => ?_)
  · replace hc := (bne_iff_ne.1 hc)
    rw [if_pos hc] at h
    have hc1 := hc
    clear hc
    refine WP.seqP [4] (L' := [(4, .bool false)]) (by kernel_rfl) ?_
    refine WP.ret ?_
    refine QP.thenR ?_
    obtain rfl := Option.some.inj h
    exact QP.returned [4] [.bool false] _ (by kernel_rfl) (by kernel_rfl) (by kernel_rfl) (fun W hI => ⟨_, _, _, rfl, ⟨rfl, rfl, rfl⟩, hI⟩)
  · replace hc := (not_not_intro (bne_eq_false_iff_eq.1 hc))
    rw [if_neg hc] at h
    have hc1 := hc
    clear hc
    refine WP.skip ?_
    refine QP.next ?_
    refine WP.pick [0, 1] ?_
    refine WP.seq ?_
    refine WP.seqR ?_
    refine WL.pure 0 1 [1, 14] (L' := [(1, mpv Al1), (14, mpv Al0)]) (by kernel_rfl) (by decide) ?_
    refine WL.op (op := .range 57 (.tmp 14)) (ty := 0) (d := some 15) (g := none) (by kernel_rfl) (by kernel_rfl) (by kernel_rfl) (Does.rangeF mt57 Hl0 (i := 1) rfl (by kernel_rfl)) ?_
    rintro _ _ _ ⟨it2, Cit2, rfl, Hit2, rfl, rfl⟩
    refine WL.addNil ?_
    refine WL.restQ 2 [1, 15] (L' := [(1, mpv Al1), (15, .pointer (some ⟨it2, 0, none⟩))]) (by kernel_rfl) ?_
    rw [Option.bind_eq_some_iff] at h
    obtain ⟨os3, h, hk4⟩ := h
    refine WP.cutQ (fun L' G' Γ' => ∃ s3 : Unit, Sum.inr s3 = os3 ∧ L' = [] ∧ G = G' ∧ [] :: Cl0 :: [] :: Cl1 :: Γ = Γ') ?_ ?_
    · skip
      refine WP.block ?_
      refine WP.pick [1, 15] ?_
      refine WP.loopF (fun kn6 L' G' Γ' => ∃ (y5 : List T34), maps_Equal_l0 l0 l1 kn6 y5 = some os3 ∧ ∃ (Cy5 : Chunk), L' = [(1, mpv Al1), (15, .pointer (some ⟨it2, 0, none⟩))] ∧ G = G' ∧ [] :: Cy5 :: [] :: Cl0 :: [] :: Cl1 :: Γ = Γ' ∧ ItF m57 Al0 l0 Cl0 it2 y5 Cy5) ?_ k ⟨([] : List T34), h, Cit2, rfl, rfl, rfl, Hit2⟩
      clear h
      rintro kn7 _ _ _ ⟨y5, h, Cy5, rfl, rfl, rfl, Hy5⟩
      cases kn7 with
      | zero => exact absurd h (by simp [maps_Equal_l0])
      | succ kn7 =>
        simp only [maps_Equal_l0] at h
        refine WP.seqR ?_
        refine WL.op (op := .next (.tmp 15) false) (ty := 0) (d := some 16) (g := none) (by kernel_rfl) (by kernel_rfl) (by kernel_rfl) (Does.nextF Hl0 Hy5 (i := 3) (j := 1) rfl rfl (by kernel_rfl)) ?_
        rintro _ _ _ (⟨rfl, hov, rfl, rfl⟩ | ⟨an8, en8, Cn8, rfl, hinn8, hnsn8, Hitn8, Hcurn8, rfl, rfl⟩)
        · rw [pickF_over hov] at h
          clear hov
          refine WL.restQ 1 [1, 15, 17] (L' := [(1, mpv Al1), (15, .pointer (some ⟨it2, 0, none⟩)), (17, .bool false)]) (by kernel_rfl) ?_
          refine WP.seq ?_
          refine WP.no (by kernel_rfl) ?_
          refine WP.exit ?_
          refine QP.thenE ?_
          refine QP.thenE ?_
          refine QP.blockE ?_
          refine QP.dropAt 1 ?_
          refine QP.dropAt 0 ?_
          refine QP.pick [] ?_
          exact QP.meet ⟨_, Option.some.inj h, rfl, rfl, rfl⟩
        · replace h := pickF_pick h hinn8 hnsn8
          refine WL.restQ 1 [1, 15, 17] (L' := [(1, mpv Al1), (15, .pointer (some ⟨it2, 0, none⟩)), (17, .bool true)]) (by kernel_rfl) ?_
          refine WP.seq ?_
          refine WP.yes (by kernel_rfl) ?_
          refine WP.skip ?_
          refine QP.next ?_
          refine WP.pick [1, 15] ?_
          refine WP.block ?_
          refine WP.seqR ?_
          refine WL.tell (op := .entry (.tmp 15)) (ty := 0) (d := some 18) (g := none) (by kernel_rfl) (by kernel_rfl) (by kernel_rfl) (Tells.entryF Hitn8 Hcurn8 (i := 3) (j := 1) rfl rfl (by kernel_rfl)) ?_
          refine WL.pure 1 3 [1, 15, 19, 20] (L' := [(1, mpv Al1), (15, .pointer (some ⟨it2, 0, none⟩)), (19, .agg #[.int .i64 an8.f0, .int .i64 an8.f1]), (20, .agg #[.int .i64 en8.f0, .int .i64 en8.f1, .int .i64 en8.f2, .int .i64 en8.f3, .string en8.f4])]) (by kernel_rfl) (by decide) ?_
          refine WL.op (op := .alloc 34) (ty := 0) (d := some 5) (g := none) (by kernel_rfl) (by kernel_rfl) (by kernel_rfl) (Does.new (o := .cells #[.int .i64 0, .int .i64 0] 34 (0, 0)) (v := fun r => .pointer (some ⟨r, 0, none⟩)) (fun r => by kernel_rfl)) ?_
          rintro _ _ _ ⟨b9, rfl, rfl, rfl⟩
          refine WL.op (op := .alloc 38) (ty := 0) (d := some 6) (g := none) (by kernel_rfl) (by kernel_rfl) (by kernel_rfl) (Does.new (o := .cells #[.int .i64 0, .int .i64 0, .int .i64 0, .int .i64 0, .string (⟨#[]⟩ : ByteArray)] 38 (0, 0)) (v := fun r => .pointer (some ⟨r, 0, none⟩)) (fun r => by kernel_rfl)) ?_
          rintro _ _ _ ⟨b10, rfl, rfl, rfl⟩
          refine WL.op (op := .store 34 (.tmp 5) (.tmp 19)) (ty := 0) (d := none) (g := none) (by kernel_rfl) (by kernel_rfl) (by kernel_rfl) (Does.store_box (i := 1) (b := b9) (o := 0) (v := .agg #[.int .i64 an8.f0, .int .i64 an8.f1]) (by rfl) sz34 (by kernel_rfl) (by kernel_rfl) (by kernel_rfl) (Free.zero _) (Nat.le_of_ble_eq_true rfl) (cells' := #[.int .i64 an8.f0, .int .i64 an8.f1]) (by kernel_rfl)) ?_
          rintro _ _ _ ⟨rfl, rfl, rfl⟩
          refine WL.op (op := .store 38 (.tmp 6) (.tmp 20)) (ty := 0) (d := none) (g := none) (by kernel_rfl) (by kernel_rfl) (by kernel_rfl) (Does.store_box (i := 0) (b := b10) (o := 0) (v := .agg #[.int .i64 en8.f0, .int .i64 en8.f1, .int .i64 en8.f2, .int .i64 en8.f3, .string en8.f4]) (by rfl) sz38 (by kernel_rfl) (by kernel_rfl) (by kernel_rfl) (Free.zero _) (Nat.le_of_ble_eq_true rfl) (cells' := #[.int .i64 en8.f0, .int .i64 en8.f1, .int .i64 en8.f2, .int .i64 en8.f3, .string en8.f4]) (by kernel_rfl)) ?_
          rintro _ _ _ ⟨rfl, rfl, rfl⟩
          refine WL.restQ 7 [1, 5, 6, 15] (L' := [(1, mpv Al1), (5, .pointer (some ⟨b9, 0, none⟩)), (6, .pointer (some ⟨b10, 0, none⟩)), (15, .pointer (some ⟨it2, 0, none⟩))]) (by kernel_rfl) ?_
          refine WP.seqR ?_
          refine WL.pure 0 1 [1, 5, 6, 15, 22] (L' := [(1, mpv Al1), (5, .pointer (some ⟨b9, 0, none⟩)), (6, .pointer (some ⟨b10, 0, none⟩)), (15, .pointer (some ⟨it2, 0, none⟩)), (22, mpv Al1)]) (by kernel_rfl) (by decide) ?_
          refine WL.tell (op := .load 34 (.tmp 5)) (ty := 34) (d := some 23) (g := none) (by kernel_rfl) (by kernel_rfl) (by kernel_rfl) (Tells.load_box (i := 1) (b := b9) (o := 0) (agg := true) (by rfl) ag34 (by kernel_rfl) (fun h => by cases h) (Nat.le_of_ble_eq_true rfl) (v := .agg #[.int .i64 an8.f0, .int .i64 an8.f1]) (by kernel_rfl)) ?_
          refine WL.tell (op := .lookup 57 (.tmp 22) (.tmp 23) true) (ty := 69) (d := some 24) (g := none) (by kernel_rfl) (by kernel_rfl) (by kernel_rfl) (Tells.lookupOkF mt57 ko57 Hl1 (i := 7) rfl (a := an8) (z := z38) (by kernel_rfl) (by kernel_rfl) mz57) ?_
          refine WL.pure 3 6 [1, 6, 15, 25, 26] (L' := [(1, mpv Al1), (6, .pointer (some ⟨b10, 0, none⟩)), (15, .pointer (some ⟨it2, 0, none⟩)), (25, .agg #[.int .i64 (((l1 an8).getD z38).f0), .int .i64 (((l1 an8).getD z38).f1), .int .i64 (((l1 an8).getD z38).f2), .int .i64 (((l1 an8).getD z38).f3), .string (((l1 an8).getD z38).f4)]), (26, .bool ((l1 an8).isSome))]) (by kernel_rfl) (by decide) ?_
          refine WL.op (op := .alloc 38) (ty := 0) (d := some 7) (g := none) (by kernel_rfl) (by kernel_rfl) (by kernel_rfl) (Does.new (o := .cells #[.int .i64 0, .int .i64 0, .int .i64 0, .int .i64 0, .string (⟨#[]⟩ : ByteArray)] 38 (0, 0)) (v := fun r => .pointer (some ⟨r, 0, none⟩)) (fun r => by kernel_rfl)) ?_
          rintro _ _ _ ⟨b11, rfl, rfl, rfl⟩
          refine WL.op (op := .store 38 (.tmp 7) (.tmp 25)) (ty := 0) (d := none) (g := none) (by kernel_rfl) (by kernel_rfl) (by kernel_rfl) (Does.store_box (i := 0) (b := b11) (o := 0) (v := .agg #[.int .i64 (((l1 an8).getD z38).f0), .int .i64 (((l1 an8).getD z38).f1), .int .i64 (((l1 an8).getD z38).f2), .int .i64 (((l1 an8).getD z38).f3), .string (((l1 an8).getD z38).f4)]) (by rfl) sz38 (by kernel_rfl) (by kernel_rfl) (by kernel_rfl) (Free.zero _) (Nat.le_of_ble_eq_true rfl) (cells' := #[.int .i64 (((l1 an8).getD z38).f0), .int .i64 (((l1 an8).getD z38).f1), .int .i64 (((l1 an8).getD z38).f2), .int .i64 (((l1 an8).getD z38).f3), .string (((l1 an8).getD z38).f4)]) (by kernel_rfl)) ?_
          rintro _ _ _ ⟨rfl, rfl, rfl⟩
          refine WL.restQ 8 [1, 6, 7, 8, 15] (L' := [(1, mpv Al1), (6, .pointer (some ⟨b10, 0, none⟩)), (7, .pointer (some ⟨b11, 0, none⟩)), (8, .bool ((l1 an8).isSome)), (15, .pointer (some ⟨it2, 0, none⟩))]) (by kernel_rfl) ?_
          refine WP.dropAt 2 ?_
          rw [Option.bind_eq_some_iff] at h
          obtain ⟨os12, h, hk13⟩ := h
          refine WP.cut (fun L' G' Γ' => ∃ s12 : Bool, s12 = os12 ∧ L' = [(1, mpv Al1), (15, .pointer (some ⟨it2, 0, none⟩)), (33, .bool s12)] ∧ G = G' ∧ [] :: Cn8 :: [] :: Cl0 :: [] :: Cl1 :: Γ = Γ') ?_ ?_
          · clear hk13
            refine WP.region ?_
            refine WL.pure 0 3 [1, 6, 7, 15, 29] (L' := [(1, mpv Al1), (6, .pointer (some ⟨b10, 0, none⟩)), (7, .pointer (some ⟨b11, 0, none⟩)), (15, .pointer (some ⟨it2, 0, none⟩)), (29, .bool (!((l1 an8).isSome)))]) (by kernel_rfl) (by decide) ?_
            refine WL.split 29 (b := (!((l1 an8).isSome))) (by kernel_rfl) (fun hc => ?_) (fun hc => ?_)
            · replace hc := hc
              rw [if_pos hc] at h
              have hc14 := hc
              clear hc
              refine WL.rest 3 [1, 15, 33] (L' := [(1, mpv Al1), (15, .pointer (some ⟨it2, 0, none⟩)), (33, .bool true)]) (by kernel_rfl) ?_
              refine QP.dropAt 1 ?_
              refine QP.dropAt 0 ?_
              refine QP.pick [1, 15, 33] ?_
              exact QP.meet ⟨_, Option.some.inj h, rfl, rfl, rfl⟩
            · replace hc := (Bool.eq_false_iff.1 hc)
              rw [if_neg hc] at h
              have hc14 := hc
              clear hc
              refine WL.tell (op := .load 38 (.tmp 6)) (ty := 38) (d := some 30) (g := some (2, false)) (by kernel_rfl) (by kernel_rfl) (by kernel_rfl) (Tells.load_box (i := 1) (b := b10) (o := 0) (agg := true) (by rfl) ag38 (by kernel_rfl) (fun h => by cases h) (Nat.le_of_ble_eq_true rfl) (v := .agg #[.int .i64 en8.f0, .int .i64 en8.f1, .int .i64 en8.f2, .int .i64 en8.f3, .string en8.f4]) (by kernel_rfl)) ?_
              refine WL.tell (op := .load 38 (.tmp 7)) (ty := 38) (d := some 31) (g := some (2, false)) (by kernel_rfl) (by kernel_rfl) (by kernel_rfl) (Tells.load_box (i := 0) (b := b11) (o := 0) (agg := true) (by rfl) ag38 (by kernel_rfl) (fun h => by cases h) (Nat.le_of_ble_eq_true rfl) (v := .agg #[.int .i64 (((l1 an8).getD z38).f0), .int .i64 (((l1 an8).getD z38).f1), .int .i64 (((l1 an8).getD z38).f2), .int .i64 (((l1 an8).getD z38).f3), .string (((l1 an8).getD z38).f4)]) (by kernel_rfl)) ?_
              refine WL.tell (op := .binOp .neq 38 (.tmp 30) (.tmp 31) 38) (ty := 4) (d := some 32) (g := some (2, false)) (by kernel_rfl) (by kernel_rfl) (by kernel_rfl) (Tells.neAgg (xs := #[.int .i64 en8.f0, .int .i64 en8.f1, .int .i64 en8.f2, .int .i64 en8.f3, .string en8.f4]) (ys := #[.int .i64 (((l1 an8).getD z38).f0), .int .i64 (((l1 an8).getD z38).f1), .int .i64 (((l1 an8).getD z38).f2), .int .i64 (((l1 an8).getD z38).f3), .string (((l1 an8).getD z38).f4)]) (ls := [.int en8.f0 (((l1 an8).getD z38).f0), .int en8.f1 (((l1 an8).getD z38).f1), .int en8.f2 (((l1 an8).getD z38).f2), .int en8.f3 (((l1 an8).getD z38).f3), .str en8.f4 (((l1 an8).getD z38).f4)]) (by kernel_rfl) (by kernel_rfl) (by kernel_rfl) eg38) ?_
              refine WL.reput 32 (v := .bool (!([.int en8.f0 (((l1 an8).getD z38).f0), .int en8.f1 (((l1 an8).getD z38).f1), .int en8.f2 (((l1 an8).getD z38).f2), .int en8.f3 (((l1 an8).getD z38).f3), .str en8.f4 (((l1 an8).getD z38).f4)].all Lf.ok))) (v' := .bool (!decide (en8 = ((l1 an8).getD z38)))) (by kernel_rfl) (by exact (congrArg (fun z => Value.bool (!z)) (eqT38 en8 ((l1 an8).getD z38)))) ?_
              refine WL.rest 6 [1, 15, 33] (L' := [(1, mpv Al1), (15, .pointer (some ⟨it2, 0, none⟩)), (33, .bool (!decide (en8 = ((l1 an8).getD z38))))]) (by kernel_rfl) ?_
              refine QP.dropAt 1 ?_
              refine QP.dropAt 0 ?_
              refine QP.pick [1, 15, 33] ?_
              exact QP.meet ⟨_, Option.some.inj h, rfl, rfl, rfl⟩
          · rintro _ _ _ ⟨s12, rfl, rfl, rfl, rfl⟩
            clear h
            replace h := hk13
            refine WP.cond (b := s12) (by kernel_rfl) (fun hc => ?_) (fun hc => ?_)
            · replace hc := hc
              rw [if_pos hc] at h
              have hc15 := hc
              clear hc
              refine WP.seqP [4] (L' := [(4, .bool false)]) (by kernel_rfl) ?_
              refine WP.dropAt 1 ?_
              refine WP.dropAt 0 ?_
              refine WP.ret ?_
              refine QP.blockR ?_
              refine QP.thenR ?_
              refine QP.blockR ?_
              refine QP.thenR ?_
              refine QP.thenR ?_
              obtain rfl := Option.some.inj h
              obtain rfl := Option.some.inj (show some _ = some _ from hk4)
              exact QP.returned [4] [.bool false] _ (by kernel_rfl) (by kernel_rfl) (by kernel_rfl) (fun W hI => ⟨_, _, _, rfl, ⟨rfl, rfl, rfl⟩, hI⟩)
            · replace hc := (Bool.eq_false_iff.1 hc)
              rw [if_neg hc] at h
              have hc15 := hc
              clear hc
              refine WP.skip ?_
              refine QP.blockN ?_
              refine QP.pick [1, 15] ?_
              exact QP.meet ⟨kn7, Nat.lt_succ_self _, (an8 :: y5), h, Cn8, rfl, rfl, rfl, Hitn8⟩
    · rintro _ _ _ ⟨s3, rfl, rfl, rfl, rfl⟩
      clear h
      replace h := hk4
      dsimp only at h
      refine QP.next ?_
      refine WP.pick [] ?_
      refine WP.seqP [4] (L' := [(4, .bool true)]) (by kernel_rfl) ?_
      refine WP.ret ?_
      obtain rfl := Option.some.inj h
      exact QP.returned [4] [.bool true] _ (by kernel_rfl) (by kernel_rfl) (by kernel_rfl) (fun W hI => ⟨_, _, _, rfl, ⟨rfl, rfl, rfl⟩, hI⟩)

/-! ### grapevine/state.Same: function 29 -/
noncomputable def state_Same (k : Nat) (a0 : T59) (a1 : T59) : Option Bool := (((slices_Equal k a0.f0 a1.f0).bind fun t3 => (if t3 = true then ((slices_Equal k a0.f1 a1.f1).bind fun t10 => (if t10 = true then ((maps_Equal k a0.f2 a1.f2).bind fun t17 => some t17) else some false)) else some false)).bind fun s1 => some s1)
set_option maxHeartbeats 4000000 in
theorem state_Same_calls {B : World} {G : GMap} {Γ : List Chunk} {W : World} (k : Nat) (a0 : T59) (a1 : T59) (b0 : Nat) (Aa0_f0 : Option Addr) (ca0_f0 : Nat) (Ca0_f0 : Chunk) (Ha0_f0 : Ow (kInt .i64) G Aa0_f0 ca0_f0 a0.f0 Ca0_f0) (Aa0_f1 : Option Addr) (ca0_f1 : Nat) (Ca0_f1 : Chunk) (Ha0_f1 : Ow (kInt .i64) G Aa0_f1 ca0_f1 a0.f1 Ca0_f1) (Aa0_f2 : Option Addr) (ca0_f2 : Nat) (Ca0_f2 : Chunk) (Ha0_f2 : MpF m57 G Aa0_f2 ca0_f2 a0.f2 Ca0_f2) (bp1 : Nat) (Aa1_f0 : Option Addr) (ca1_f0 : Nat) (Ca1_f0 : Chunk) (Ha1_f0 : Ow (kInt .i64) G Aa1_f0 ca1_f0 a1.f0 Ca1_f0) (Aa1_f1 : Option Addr) (ca1_f1 : Nat) (Ca1_f1 : Chunk) (Ha1_f1 : Ow (kInt .i64) G Aa1_f1 ca1_f1 a1.f1 Ca1_f1) (Aa1_f2 : Option Addr) (ca1_f2 : Nat) (Ca1_f2 : Chunk) (Ha1_f2 : MpF m57 G Aa1_f2 ca1_f2 a1.f2 Ca1_f2) (r : Bool) (h : state_Same k a0 a1 = some r) (hI : Inv B G ([(b0, .cells #[.slice Aa0_f0 a0.f0.length ca0_f0, .slice Aa0_f1 a0.f1.length ca0_f1, mpv Aa0_f2] 59 (0, 0))] :: Ca0_f0 :: Ca0_f1 :: Ca0_f2 :: [(bp1, .cells #[.slice Aa1_f0 a1.f0.length ca1_f0, .slice Aa1_f1 a1.f1.length ca1_f1, mpv Aa1_f2] 59 (0, 0))] :: Ca1_f0 :: Ca1_f1 :: Ca1_f2 :: Γ) W) :
    Calls Tryz.prog 29 [.pointer (some ⟨b0, 0, none⟩), .pointer (some ⟨bp1, 0, none⟩)].toArray W (Ret B (fun v G' Γ' => v = .bool r ∧ G = G' ∧ [(b0, .cells #[.slice Aa0_f0 a0.f0.length ca0_f0, .slice Aa0_f1 a0.f1.length ca0_f1, mpv Aa0_f2] 59 (0, 0))] :: Ca0_f0 :: Ca0_f1 :: Ca0_f2 :: [(bp1, .cells #[.slice Aa1_f0 a1.f0.length ca1_f0, .slice Aa1_f1 a1.f1.length ca1_f1, mpv Aa1_f2] 59 (0, 0))] :: Ca1_f0 :: Ca1_f1 :: Ca1_f2 :: Γ = Γ')) := by
  refine calls_WP (Γ := [(b0, .cells #[.slice Aa0_f0 a0.f0.length ca0_f0, .slice Aa0_f1 a0.f1.length ca0_f1, mpv Aa0_f2] 59 (0, 0))] :: Ca0_f0 :: Ca0_f1 :: Ca0_f2 :: [(bp1, .cells #[.slice Aa1_f0 a1.f0.length ca1_f0, .slice Aa1_f1 a1.f1.length ca1_f1, mpv Aa1_f2] 59 (0, 0))] :: Ca1_f0 :: Ca1_f1 :: Ca1_f2 :: Γ) (G := G) (B := B) Tryz.func29 rfl (by kernel_rfl) ?_ hI
  clear hI
  unfold state_Same at h
  refine WP.seqP [0, 1] (L' := [(0, .pointer (some ⟨b0, 0, none⟩)), (1, .pointer (some ⟨bp1, 0, none⟩))]) (by kernel_rfl) ?_
  refine WP.seq ?_
  refine WP.seqP [0, 1, 10] (L' := [(0, .pointer (some ⟨b0, 0, none⟩)), (1, .pointer (some ⟨bp1, 0, none⟩)), (10, .bool false)]) (by kernel_rfl) ?_
  refine WP.no (by kernel_rfl) ?_
  refine WP.skip ?_
  refine QP.next ?_
  refine WP.pick [0, 1] ?_
  rw [Option.bind_eq_some_iff] at h
  obtain ⟨os1, h, hk2⟩ := h
  refine WP.cut (fun L' G' Γ' => ∃ s1 : Bool, s1 = os1 ∧ L' = [(4, .bool s1)] ∧ G = G' ∧ [(b0, .cells #[.slice Aa0_f0 a0.f0.length ca0_f0, .slice Aa0_f1 a0.f1.length ca0_f1, mpv Aa0_f2] 59 (0, 0))] :: Ca0_f0 :: Ca0_f1 :: Ca0_f2 :: [(bp1, .cells #[.slice Aa1_f0 a1.f0.length ca1_f0, .slice Aa1_f1 a1.f1.length ca1_f1, mpv Aa1_f2] 59 (0, 0))] :: Ca1_f0 :: Ca1_f1 :: Ca1_f2 :: Γ = Γ') ?_ ?_
  · clear hk2
    skip
    refine WP.any (N := 32) (S := [⟨some 14, [0], []⟩, ⟨some 15, [14], [0]⟩, ⟨some 16, [15], [1]⟩, ⟨some 17, [16], [2]⟩, ⟨some 18, [1], []⟩, ⟨some 19, [18], [4]⟩, ⟨some 20, [19], [5]⟩, ⟨some 21, [20], [6]⟩, ⟨some 22, [17, 21], [3, 7]⟩, ⟨some 23, [22], [8]⟩, ⟨some 24, [0, 23], [9]⟩, ⟨some 25, [23, 24], [9, 10]⟩, ⟨some 26, [23, 25], [9, 11]⟩, ⟨some 27, [23, 26], [9, 12]⟩, ⟨some 28, [1, 23], [9]⟩, ⟨some 29, [23, 28], [9, 14]⟩, ⟨some 30, [23, 29], [9, 15]⟩, ⟨some 31, [23, 30], [9, 16]⟩, ⟨some 32, [23, 27, 31], [9, 13, 17]⟩, ⟨some 33, [23, 32], [9, 18]⟩, ⟨some 34, [33], [18, 19]⟩, ⟨some 35, [0, 34], [20]⟩, ⟨some 36, [34, 35], [20, 21]⟩, ⟨some 37, [34, 36], [20, 22]⟩, ⟨some 38, [34, 37], [20, 23]⟩, ⟨some 39, [1, 34], [20]⟩, ⟨some 40, [34, 39], [20, 25]⟩, ⟨some 41, [34, 40], [20, 26]⟩, ⟨some 42, [34, 41], [20, 27]⟩, ⟨some 43, [34, 38, 42], [20, 24, 28]⟩, ⟨some 44, [34, 43], [20, 29]⟩, ⟨some 4, [44], [0, 1, 2, 3, 4, 5, 6, 7, 8, 9, 10, 11, 12, 13, 14, 15, 16, 17, 18, 19, 20, 21, 22, 23, 24, 25, 26, 27, 28, 29, 30]⟩]) (kw := 32) (G0 := G) (Γ0 := [(b0, .cells #[.slice Aa0_f0 a0.f0.length ca0_f0, .slice Aa0_f1 a0.f1.length ca0_f1, mpv Aa0_f2] 59 (0, 0))] :: Ca0_f0 :: Ca0_f1 :: Ca0_f2 :: [(bp1, .cells #[.slice Aa1_f0 a1.f0.length ca1_f0, .slice Aa1_f1 a1.f1.length ca1_f1, mpv Aa1_f2] 59 (0, 0))] :: Ca1_f0 :: Ca1_f1 :: Ca1_f2 :: Γ) mo (by kernel_rfl) (fun hS => ?_)
    refine WA.pure [0, 1, 2, 4, 5, 6] [0, 1, 16, 20] (m := 26) (b' := 119) (L' := [(0, .pointer (some ⟨b0, 0, none⟩)), (1, .pointer (some ⟨bp1, 0, none⟩)), (16, .pointer (some ⟨b0, 0, none⟩)), (20, .pointer (some ⟨bp1, 0, none⟩))]) (by kernel_rfl) (NoPanic.then (NoPanic.body)) Under.refl hS (by kernel_rfl) ?_
    refine WA.tellD [] (i := 3) (m := 25) (b' := 127) (by kernel_rfl) (NoPanic.then (NoPanic.body)) Under.refl hS (by kernel_rfl) (op := .load 25 (.tmp 16)) (ty := 25) (d := some 17) (g := none) (by kernel_rfl) (by kernel_rfl) (by kernel_rfl) (Tells.load_box (i := 0) (b := b0) (o := 0) (agg := false) (by rfl) ag25 (by kernel_rfl) (fun _ => rfl) (Nat.le_of_ble_eq_true rfl) (v := .slice Aa0_f0 a0.f0.length ca0_f0) (by kernel_rfl)) ?_
    refine WA.tellD [] (i := 7) (m := 24) (b' := 255) (by kernel_rfl) (NoPanic.then (NoPanic.body)) Under.refl hS (by kernel_rfl) (op := .load 25 (.tmp 20)) (ty := 25) (d := some 21) (g := none) (by kernel_rfl) (by kernel_rfl) (by kernel_rfl) (Tells.load_box (i := 4) (b := bp1) (o := 0) (agg := false) (by rfl) ag25 (by kernel_rfl) (fun _ => rfl) (Nat.le_of_ble_eq_true rfl) (v := .slice Aa1_f0 a1.f0.length ca1_f0) (by kernel_rfl)) ?_
    rw [Option.bind_eq_some_iff] at h
    obtain ⟨t3, ht4, h⟩ := h
    refine WA.op (i := 8) (m := 23) (b' := 511) (by kernel_rfl) hS (by kernel_rfl) (op := .call { callee := (.value (.func 50)), args := #[(.tmp 17), (.tmp 21)], argTypes := #[25, 25] }) (ty := 4) (d := some 22) (g := none) (by kernel_rfl) (by kernel_rfl) (by kernel_rfl) (Does.call (Φ := fun v' G' Γ' => v' = .bool t3 ∧ G = G' ∧ [(b0, .cells #[.slice Aa0_f0 a0.f0.length ca0_f0, .slice Aa0_f1 a0.f1.length ca0_f1, mpv Aa0_f2] 59 (0, 0))] :: Ca0_f0 :: Ca0_f1 :: Ca0_f2 :: [(bp1, .cells #[.slice Aa1_f0 a1.f0.length ca1_f0, .slice Aa1_f1 a1.f1.length ca1_f1, mpv Aa1_f2] 59 (0, 0))] :: Ca1_f0 :: Ca1_f1 :: Ca1_f2 :: Γ = Γ') (f := 50) (args := [.slice Aa0_f0 a0.f0.length ca0_f0, .slice Aa1_f0 a1.f0.length ca1_f0]) (by kernel_rfl) (fun W hI => (Calls.lendN (Φ := fun v' N => v' = .bool t3 ∧ N = []) (H := []) (i := 1) rfl hI (fun _ e l7 nl7 hI => by subst e; exact Calls.lendN (Φ := fun v' N => v' = .bool t3 ∧ N = []) (H := []) (i := 5) rfl hI (fun _ e l8 nl8 hI => by subst e; exact (((slices_Equal_calls k a0.f0 a1.f0 Aa0_f0 ca0_f0 ((Ha0_f0.rdN l7 nl7).mono l8) Aa1_f0 ca1_f0 ((Ha1_f0.mono l7).rdN l8 nl8) t3 ht4 hI)).mono fun _ _ hr => by obtain ⟨_, _, _, rfl, hd, hI⟩ := hr; obtain ⟨rfl, rfl, rfl⟩ := hd; exact ⟨_, _, _, rfl, ⟨[], ⟨rfl, rfl⟩, rfl, rfl⟩, hI⟩)))).mono fun _ _ hr => by obtain ⟨_, _, _, rfl, ⟨_, hd, rfl, rfl⟩, hI⟩ := hr; obtain ⟨rfl, rfl⟩ := hd; exact ⟨_, _, _, rfl, ⟨rfl, rfl, rfl⟩, hI⟩)) ?_
    rintro _ _ _ ⟨rfl, rfl, rfl⟩
    refine ⟨_, _, Under.refl, Under.refl, ?_⟩
    refine WA.pure [9] [0, 1, 23] (m := 22) (b' := 1023) (L' := [(0, .pointer (some ⟨b0, 0, none⟩)), (1, .pointer (some ⟨bp1, 0, none⟩)), (23, .bool t3)]) (by kernel_rfl) (NoPanic.then (NoPanic.body)) Under.refl hS (by kernel_rfl) ?_
    refine WA.split 23 (b := t3) (by kernel_rfl) (fun hc => ?_) (fun hc => ?_)
    · replace hc := hc
      rw [if_pos hc] at h
      have hc9 := hc
      clear hc
      refine WA.pure [10, 11, 12, 14, 15, 16] [0, 1, 23, 26, 30] (m := 16) (b' := 122879) (L' := [(0, .pointer (some ⟨b0, 0, none⟩)), (1, .pointer (some ⟨bp1, 0, none⟩)), (23, .bool true), (26, .pointer (some ⟨b0, 1, none⟩)), (30, .pointer (some ⟨bp1, 1, none⟩))]) (by kernel_rfl) (NoPanic.then (NoPanic.body)) Under.refl hS (by kernel_rfl) ?_
      refine WA.tellD [] (i := 13) (m := 15) (b' := 131071) (by kernel_rfl) (NoPanic.then (NoPanic.body)) Under.refl hS (by kernel_rfl) (op := .load 25 (.tmp 26)) (ty := 25) (d := some 27) (g := some (9, true)) (by kernel_rfl) (by kernel_rfl) (by kernel_rfl) (Tells.load_box (i := 0) (b := b0) (o := 1) (agg := false) (by rfl) ag25 (by kernel_rfl) (fun _ => rfl) (Nat.le_of_ble_eq_true rfl) (v := .slice Aa0_f1 a0.f1.length ca0_f1) (by kernel_rfl)) ?_
      refine WA.tellD [] (i := 17) (m := 14) (b' := 262143) (by kernel_rfl) (NoPanic.then (NoPanic.body)) Under.refl hS (by kernel_rfl) (op := .load 25 (.tmp 30)) (ty := 25) (d := some 31) (g := some (9, true)) (by kernel_rfl) (by kernel_rfl) (by kernel_rfl) (Tells.load_box (i := 4) (b := bp1) (o := 1) (agg := false) (by rfl) ag25 (by kernel_rfl) (fun _ => rfl) (Nat.le_of_ble_eq_true rfl) (v := .slice Aa1_f1 a1.f1.length ca1_f1) (by kernel_rfl)) ?_
      rw [Option.bind_eq_some_iff] at h
      obtain ⟨t10, ht11, h⟩ := h
      refine WA.op (i := 18) (m := 13) (b' := 524287) (by kernel_rfl) hS (by kernel_rfl) (op := .call { callee := (.value (.func 50)), args := #[(.tmp 27), (.tmp 31)], argTypes := #[25, 25] }) (ty := 4) (d := some 32) (g := some (9, true)) (by kernel_rfl) (by kernel_rfl) (by kernel_rfl) (Does.call (Φ := fun v' G' Γ' => v' = .bool t10 ∧ G = G' ∧ [(b0, .cells #[.slice Aa0_f0 a0.f0.length ca0_f0, .slice Aa0_f1 a0.f1.length ca0_f1, mpv Aa0_f2] 59 (0, 0))] :: Ca0_f0 :: Ca0_f1 :: Ca0_f2 :: [(bp1, .cells #[.slice Aa1_f0 a1.f0.length ca1_f0, .slice Aa1_f1 a1.f1.length ca1_f1, mpv Aa1_f2] 59 (0, 0))] :: Ca1_f0 :: Ca1_f1 :: Ca1_f2 :: Γ = Γ') (f := 50) (args := [.slice Aa0_f1 a0.f1.length ca0_f1, .slice Aa1_f1 a1.f1.length ca1_f1]) (by kernel_rfl) (fun W hI => (Calls.lendN (Φ := fun v' N => v' = .bool t10 ∧ N = []) (H := []) (i := 2) rfl hI (fun _ e l14 nl14 hI => by subst e; exact Calls.lendN (Φ := fun v' N => v' = .bool t10 ∧ N = []) (H := []) (i := 6) rfl hI (fun _ e l15 nl15 hI => by subst e; exact (((slices_Equal_calls k a0.f1 a1.f1 Aa0_f1 ca0_f1 ((Ha0_f1.rdN l14 nl14).mono l15) Aa1_f1 ca1_f1 ((Ha1_f1.mono l14).rdN l15 nl15) t10 ht11 hI)).mono fun _ _ hr => by obtain ⟨_, _, _, rfl, hd, hI⟩ := hr; obtain ⟨rfl, rfl, rfl⟩ := hd; exact ⟨_, _, _, rfl, ⟨[], ⟨rfl, rfl⟩, rfl, rfl⟩, hI⟩)))).mono fun _ _ hr => by obtain ⟨_, _, _, rfl, ⟨_, hd, rfl, rfl⟩, hI⟩ := hr; obtain ⟨rfl, rfl⟩ := hd; exact ⟨_, _, _, rfl, ⟨rfl, rfl, rfl⟩, hI⟩)) ?_
      rintro _ _ _ ⟨rfl, rfl, rfl⟩
      refine ⟨_, _, Under.refl, Under.refl, ?_⟩
      refine WA.pure [19, 20] [0, 1, 34] (m := 11) (b' := 2097151) (L' := [(0, .pointer (some ⟨b0, 0, none⟩)), (1, .pointer (some ⟨bp1, 0, none⟩)), (34, .bool t10)]) (by kernel_rfl) (NoPanic.then (NoPanic.body)) Under.refl hS (by kernel_rfl) ?_
      refine WA.split 34 (b := t10) (by kernel_rfl) (fun hc => ?_) (fun hc => ?_)
      · replace hc := hc
        rw [if_pos hc] at h
        have hc16 := hc
        clear hc
        refine WA.pure [21, 22, 23, 25, 26, 27] [34, 37, 41] (m := 5) (b' := 251658239) (L' := [(34, .bool true), (37, .pointer (some ⟨b0, 2, none⟩)), (41, .pointer (some ⟨bp1, 2, none⟩))]) (by kernel_rfl) (NoPanic.then (NoPanic.body)) Under.refl hS (by kernel_rfl) ?_
        refine WA.tellD [] (i := 24) (m := 4) (b' := 268435455) (by kernel_rfl) (NoPanic.then (NoPanic.body)) Under.refl hS (by kernel_rfl) (op := .load 57 (.tmp 37)) (ty := 57) (d := some 38) (g := some (20, true)) (by kernel_rfl) (by kernel_rfl) (by kernel_rfl) (Tells.load_box (i := 0) (b := b0) (o := 2) (agg := false) (by rfl) ag57 (by kernel_rfl) (fun _ => rfl) (Nat.le_of_ble_eq_true rfl) (v := mpv Aa0_f2) (by kernel_rfl)) ?_
        refine WA.tellD [] (i := 28) (m := 3) (b' := 536870911) (by kernel_rfl) (NoPanic.then (NoPanic.body)) Under.refl hS (by kernel_rfl) (op := .load 57 (.tmp 41)) (ty := 57) (d := some 42) (g := some (20, true)) (by kernel_rfl) (by kernel_rfl) (by kernel_rfl) (Tells.load_box (i := 4) (b := bp1) (o := 2) (agg := false) (by rfl) ag57 (by kernel_rfl) (fun _ => rfl) (Nat.le_of_ble_eq_true rfl) (v := mpv Aa1_f2) (by kernel_rfl)) ?_
        refine WA.addNil ?_
        refine WA.addNil ?_
        refine WA.front (i := 9) rfl ?_
        refine WA.front (i := 1) rfl ?_
        refine WA.front (i := 6) rfl ?_
        refine WA.front (i := 3) rfl ?_
        rw [Option.bind_eq_some_iff] at h
        obtain ⟨t17, ht18, h⟩ := h
        refine WA.op (i := 29) (m := 2) (b' := 1073741823) (by kernel_rfl) hS (by kernel_rfl) (op := .call { callee := (.value (.func 51)), args := #[(.tmp 38), (.tmp 42)], argTypes := #[57, 57] }) (ty := 4) (d := some 43) (g := some (20, true)) (by kernel_rfl) (by kernel_rfl) (by kernel_rfl) (Does.call (f := 51) (args := [mpv Aa0_f2, mpv Aa1_f2]) (by kernel_rfl) (fun W hI => (maps_Equal_calls k a0.f2 a1.f2 Aa0_f2 ca0_f2 Ca0_f2 Ha0_f2 Aa1_f2 ca1_f2 Ca1_f2 Ha1_f2 t17 ht18 hI))) ?_
        rintro _ _ _ ⟨rfl, rfl, rfl⟩
        refine ⟨_, _, (Under.trans (Under.front (i := 3) rfl (Under.front (i := 6) rfl (Under.front (i := 1) rfl (Under.front (i := 9) rfl (Under.cons (Under.cons (Under.refl))))))) (Under.refl)), Under.refl, ?_⟩
        refine WA.pure [30, 31] [4] (m := 0) (b' := 4294967295) (L' := [(4, .bool t17)]) (by kernel_rfl) (NoPanic.then (NoPanic.body)) Under.refl hS (by kernel_rfl) ?_
        refine WA.done hS (by kernel_rfl) ?_
        refine QP.pick [4] ?_
        refine QP.dropAt 2 ?_
        refine QP.dropAt 0 ?_
        refine QP.reperm (Γ' := [(b0, .cells #[.slice Aa0_f0 a0.f0.length ca0_f0, .slice Aa0_f1 a0.f1.length ca0_f1, mpv Aa0_f2] 59 (0, 0))] :: Ca0_f0 :: Ca0_f1 :: Ca0_f2 :: [(bp1, .cells #[.slice Aa1_f0 a1.f0.length ca1_f0, .slice Aa1_f1 a1.f1.length ca1_f1, mpv Aa1_f2] 59 (0, 0))] :: Ca1_f0 :: Ca1_f1 :: Ca1_f2 :: Γ) (perm_sel [2, 3, 4, 0, 5, 6, 7, 1] (by kernel_rfl) rfl) ?_
        refine QP.pick [4] ?_
        exact QP.meet ⟨_, Option.some.inj h, rfl, rfl, rfl⟩
      · replace hc := (Bool.eq_false_iff.1 hc)
        rw [if_neg hc] at h
        have hc16 := hc
        clear hc
        refine WA.pure [21, 22, 23, 24, 25, 26, 27, 28, 29, 30, 31] [4] (m := 0) (b' := 4294967295) (L' := [(4, .bool false)]) (by kernel_rfl) (NoPanic.then (NoPanic.body)) Under.refl hS (by kernel_rfl) ?_
        refine WA.done hS (by kernel_rfl) ?_
        refine QP.pick [4] ?_
        refine QP.pick [4] ?_
        exact QP.meet ⟨_, Option.some.inj h, rfl, rfl, rfl⟩
    · replace hc := (Bool.eq_false_iff.1 hc)
      rw [if_neg hc] at h
      have hc9 := hc
      clear hc
      refine WA.pure [10, 11, 12, 13, 14, 15, 16, 17, 18, 19, 20, 21, 22, 23, 24, 25, 26, 27, 28, 29, 30, 31] [4] (m := 0) (b' := 4294967295) (L' := [(4, .bool false)]) (by kernel_rfl) (NoPanic.then (NoPanic.body)) Under.refl hS (by kernel_rfl) ?_
      refine WA.done hS (by kernel_rfl) ?_
      refine QP.pick [4] ?_
      refine QP.pick [4] ?_
      exact QP.meet ⟨_, Option.some.inj h, rfl, rfl, rfl⟩
  · rintro _ _ _ ⟨s1, rfl, rfl, rfl, rfl⟩
    clear h
    replace h := hk2
    refine WP.ret ?_
    obtain rfl := Option.some.inj h
    exact QP.returned [4] [.bool s1] _ (by kernel_rfl) (by kernel_rfl) (by kernel_rfl) (fun W hI => ⟨_, _, _, rfl, ⟨rfl, rfl, rfl⟩, hI⟩)

/-! ### grapevine/grapevinelaw19.awake: function 15 -/
noncomputable def grapevinelaw19_awake (k : Nat) : Option Bool := ((state_New 2).bind fun t1 => Option.elim t1 (some false) (fun x4 => ((grapevinelaw19_rec 0 1).bind fun t5 => ((state_State_Accept_20 x4 t5).bind fun t9 => ((grapevinelaw19_rec 0 3).bind fun t13 => ((state_State_Accept_20 t9.2 t13).bind fun t17 => ((grapevinelaw19_rec 0 1).bind fun t21 => ((state_State_Accept_20 t17.2 t21).bind fun t25 => ((state_State_Records_26 k t25.2).bind fun t29 => ((state_State_Retire_31 k t25.2 0 9).bind fun t33 => ((if t9.1 = 0 then (if t17.1 = 7 then (if t25.1 = 6 then (if (t29.length : Int) = 1 then (if t33.1 = 0 then ((state_State_V_30 t33.2).bind fun t44 => ((grapevinelaw0_SameInts k t44 ([1, 0] : List Int)).bind fun t51 => (if t51 = true then ((state_State_W_27 t33.2).bind fun t58 => ((grapevinelaw0_SameInts k t58 ([1, 0] : List Int)).bind fun t65 => (if t65 = true then ((state_State_Records_26 k t33.2).bind fun t72 => (if (t72.length : Int) = 0 then ((state_New 0).bind fun t77 => Option.elim t77 ((state_State_Copy_39 t33.2).bind fun t81 => ((state_Same k t33.2 t81).bind fun t85 => some t85)) (fun x80 => some false)) else some false)) else some false))) else some false))) else some false) else some false) else some false) else some false) else some false).bind fun s37 => some s37)))))))))))
set_option maxHeartbeats 4000000 in
theorem grapevinelaw19_awake_calls {B : World} {G : GMap} {Γ : List Chunk} {W : World} (HT : Tabs B G) (k : Nat) (r : Bool) (h : grapevinelaw19_awake k  = some r) (hI : Inv B G (Γ) W) :
    Calls Tryz.prog 15 [].toArray W (Ret B (fun v G' Γ' => v = .bool r ∧ G = G' ∧ Γ = Γ')) := by
  refine calls_WP (Γ := Γ) (G := G) (B := B) Tryz.func15 rfl (by kernel_rfl) ?_ hI
  clear hI
  unfold grapevinelaw19_awake at h
  refine WP.seqP [] (L' := []) (by kernel_rfl) ?_
  refine WP.seqR ?_
  rw [Option.bind_eq_some_iff] at h
  obtain ⟨t1, ht2, h⟩ := h
  refine WL.op (op := .call { callee := (.value (.func 28)), args := #[(.const (.int .i64 2))], argTypes := #[3] }) (ty := 22) (d := some 7) (g := none) (by kernel_rfl) (by kernel_rfl) (by kernel_rfl) (Does.call (f := 28) (args := [.int .i64 2]) (by kernel_rfl) (fun W hI => (state_New_calls 2  t1 ht2 hI))) ?_
  rintro _ _ _ (⟨hx, rfl, rfl, rfl⟩ | ⟨x4, hx, bR3, AR3_0, cR3_0, CR3_0, AR3_1, cR3_1, CR3_1, AR3_2, cR3_2, CR3_2, rfl, HR3_0, HR3_1, HR3_2, rfl, rfl⟩)
  · rw [hx] at h
    rw [Option.elim_none] at h
    clear hx
    refine WL.restQ 1 [1] (L' := [(1, .pointer none)]) (by kernel_rfl) ?_
    refine WP.seq ?_
    refine WP.seqP [1, 9] (L' := [(1, .pointer none), (9, .bool true)]) (by kernel_rfl) ?_
    refine WP.yes (by kernel_rfl) ?_
    refine WP.seqP [0] (L' := [(0, .bool false)]) (by kernel_rfl) ?_
    refine WP.ret ?_
    refine QP.thenR ?_
    obtain rfl := Option.some.inj h
    exact QP.returned [0] [.bool false] _ (by kernel_rfl) (by kernel_rfl) (by kernel_rfl) (fun W hI => ⟨_, _, _, rfl, ⟨rfl, rfl, rfl⟩, hI⟩)
  · rw [hx] at h
    rw [Option.elim_some] at h
    clear hx
    refine WL.restQ 1 [1] (L' := [(1, .pointer (some ⟨bR3, 0, none⟩))]) (by kernel_rfl) ?_
    refine WP.seq ?_
    refine WP.seqP [1, 9] (L' := [(1, .pointer (some ⟨bR3, 0, none⟩)), (9, .bool false)]) (by kernel_rfl) ?_
    refine WP.no (by kernel_rfl) ?_
    refine WP.skip ?_
    refine QP.next ?_
    refine WP.pick [1] ?_
    refine WP.seqR ?_
    refine WL.pure 0 1 [1, 10] (L' := [(1, .pointer (some ⟨bR3, 0, none⟩)), (10, .pointer (some ⟨bR3, 0, none⟩))]) (by kernel_rfl) (by decide) ?_
    rw [Option.bind_eq_some_iff] at h
    obtain ⟨t5, ht6, h⟩ := h
    refine WL.op (op := .call { callee := (.value (.func 6)), args := #[(.const (.int .i64 0)), (.const (.int .i64 1))], argTypes := #[3, 3] }) (ty := 38) (d := some 11) (g := none) (by kernel_rfl) (by kernel_rfl) (by kernel_rfl) (Does.call (f := 6) (args := [.int .i64 0, .int .i64 1]) (by kernel_rfl) (fun W hI => (grapevinelaw19_rec_calls 0 1  t5 ht6 hI))) ?_
    rintro _ _ _ ⟨rfl, rfl, rfl⟩
    rw [Option.bind_eq_some_iff] at h
    obtain ⟨t9, ht10, h⟩ := h
    refine WL.op (op := .call { callee := (.value (.func 5)), args := #[(.tmp 10), (.tmp 11)], argTypes := #[22, 38] }) (ty := 23) (d := some 12) (g := none) (by kernel_rfl) (by kernel_rfl) (by kernel_rfl) (Does.call (f := 5) (args := [.pointer (some ⟨bR3, 0, none⟩), .agg #[.int .i64 t5.f0, .int .i64 t5.f1, .int .i64 t5.f2, .int .i64 t5.f3, .string t5.f4]]) (by kernel_rfl) (fun W hI => (state_State_Accept_20_calls HT x4 t5 bR3 AR3_0 cR3_0 CR3_0 HR3_0 AR3_1 cR3_1 CR3_1 HR3_1 AR3_2 cR3_2 CR3_2 HR3_2 t9 ht10 hI))) ?_
    rintro _ _ _ ⟨AR11p0_0, cR11p0_0, CR11p0_0, AR11p0_1, cR11p0_1, CR11p0_1, AR11p0_2, cR11p0_2, CR11p0_2, rfl, HR11p0_0, HR11p0_1, HR11p0_2, rfl, rfl⟩
    refine WL.pure 3 4 [1, 12, 13] (L' := [(1, .pointer (some ⟨bR3, 0, none⟩)), (12, .int .i64 t9.1), (13, .pointer (some ⟨bR3, 0, none⟩))]) (by kernel_rfl) (by decide) ?_
    rw [Option.bind_eq_some_iff] at h
    obtain ⟨t13, ht14, h⟩ := h
    refine WL.op (op := .call { callee := (.value (.func 6)), args := #[(.const (.int .i64 0)), (.const (.int .i64 3))], argTypes := #[3, 3] }) (ty := 38) (d := some 14) (g := none) (by kernel_rfl) (by kernel_rfl) (by kernel_rfl) (Does.call (f := 6) (args := [.int .i64 0, .int .i64 3]) (by kernel_rfl) (fun W hI => (grapevinelaw19_rec_calls 0 3  t13 ht14 hI))) ?_
    rintro _ _ _ ⟨rfl, rfl, rfl⟩
    rw [Option.bind_eq_some_iff] at h
    obtain ⟨t17, ht18, h⟩ := h
    refine WL.op (op := .call { callee := (.value (.func 5)), args := #[(.tmp 13), (.tmp 14)], argTypes := #[22, 38] }) (ty := 23) (d := some 15) (g := none) (by kernel_rfl) (by kernel_rfl) (by kernel_rfl) (Does.call (f := 5) (args := [.pointer (some ⟨bR3, 0, none⟩), .agg #[.int .i64 t13.f0, .int .i64 t13.f1, .int .i64 t13.f2, .int .i64 t13.f3, .string t13.f4]]) (by kernel_rfl) (fun W hI => (state_State_Accept_20_calls HT t9.2 t13 bR3 AR11p0_0 cR11p0_0 CR11p0_0 HR11p0_0 AR11p0_1 cR11p0_1 CR11p0_1 HR11p0_1 AR11p0_2 cR11p0_2 CR11p0_2 HR11p0_2 t17 ht18 hI))) ?_
    rintro _ _ _ ⟨AR19p0_0, cR19p0_0, CR19p0_0, AR19p0_1, cR19p0_1, CR19p0_1, AR19p0_2, cR19p0_2, CR19p0_2, rfl, HR19p0_0, HR19p0_1, HR19p0_2, rfl, rfl⟩
    refine WL.pure 6 7 [1, 12, 15, 16] (L' := [(1, .pointer (some ⟨bR3, 0, none⟩)), (12, .int .i64 t9.1), (15, .int .i64 t17.1), (16, .pointer (some ⟨bR3, 0, none⟩))]) (by kernel_rfl) (by decide) ?_
    rw [Option.bind_eq_some_iff] at h
    obtain ⟨t21, ht22, h⟩ := h
    refine WL.op (op := .call { callee := (.value (.func 6)), args := #[(.const (.int .i64 0)), (.const (.int .i64 1))], argTypes := #[3, 3] }) (ty := 38) (d := some 17) (g := none) (by kernel_rfl) (by kernel_rfl) (by kernel_rfl) (Does.call (f := 6) (args := [.int .i64 0, .int .i64 1]) (by kernel_rfl) (fun W hI => (grapevinelaw19_rec_calls 0 1  t21 ht22 hI))) ?_
    rintro _ _ _ ⟨rfl, rfl, rfl⟩
    rw [Option.bind_eq_some_iff] at h
    obtain ⟨t25, ht26, h⟩ := h
    refine WL.op (op := .call { callee := (.value (.func 5)), args := #[(.tmp 16), (.tmp 17)], argTypes := #[22, 38] }) (ty := 23) (d := some 18) (g := none) (by kernel_rfl) (by kernel_rfl) (by kernel_rfl) (Does.call (f := 5) (args := [.pointer (some ⟨bR3, 0, none⟩), .agg #[.int .i64 t21.f0, .int .i64 t21.f1, .int .i64 t21.f2, .int .i64 t21.f3, .string t21.f4]]) (by kernel_rfl) (fun W hI => (state_State_Accept_20_calls HT t17.2 t21 bR3 AR19p0_0 cR19p0_0 CR19p0_0 HR19p0_0 AR19p0_1 cR19p0_1 CR19p0_1 HR19p0_1 AR19p0_2 cR19p0_2 CR19p0_2 HR19p0_2 t25 ht26 hI))) ?_
    rintro _ _ _ ⟨AR27p0_0, cR27p0_0, CR27p0_0, AR27p0_1, cR27p0_1, CR27p0_1, AR27p0_2, cR27p0_2, CR27p0_2, rfl, HR27p0_0, HR27p0_1, HR27p0_2, rfl, rfl⟩
    refine WL.restQ 9 [1, 2, 3, 4] (L' := [(1, .pointer (some ⟨bR3, 0, none⟩)), (2, .int .i64 t9.1), (3, .int .i64 t17.1), (4, .int .i64 t25.1)]) (by kernel_rfl) ?_
    refine WP.seqR ?_
    refine WL.pure 0 1 [1, 2, 3, 4, 19] (L' := [(1, .pointer (some ⟨bR3, 0, none⟩)), (2, .int .i64 t9.1), (3, .int .i64 t17.1), (4, .int .i64 t25.1), (19, .pointer (some ⟨bR3, 0, none⟩))]) (by kernel_rfl) (by decide) ?_
    rw [Option.bind_eq_some_iff] at h
    obtain ⟨t29, ht30, h⟩ := h
    refine WL.op (op := .call { callee := (.value (.func 10)), args := #[(.tmp 19)], argTypes := #[22] }) (ty := 24) (d := some 20) (g := none) (by kernel_rfl) (by kernel_rfl) (by kernel_rfl) (Does.call (f := 10) (args := [.pointer (some ⟨bR3, 0, none⟩)]) (by kernel_rfl) (fun W hI => (state_State_Records_26_calls k t25.2 bR3 AR27p0_0 cR27p0_0 CR27p0_0 HR27p0_0 AR27p0_1 cR27p0_1 CR27p0_1 HR27p0_1 AR27p0_2 cR27p0_2 CR27p0_2 HR27p0_2 t29 ht30 hI))) ?_
    rintro _ _ _ ⟨AR31, cR31, CR31, rfl, HR31, rfl, rfl⟩
    refine WL.restQ 2 [1, 2, 3, 4, 5] (L' := [(1, .pointer (some ⟨bR3, 0, none⟩)), (2, .int .i64 t9.1), (3, .int .i64 t17.1), (4, .int .i64 t25.1), (5, .int .i64 (t29.length : Int))]) (by kernel_rfl) ?_
    refine WP.dropAt 0 ?_
    refine WP.seqR ?_
    refine WL.pure 0 1 [1, 2, 3, 4, 5, 22] (L' := [(1, .pointer (some ⟨bR3, 0, none⟩)), (2, .int .i64 t9.1), (3, .int .i64 t17.1), (4, .int .i64 t25.1), (5, .int .i64 (t29.length : Int)), (22, .pointer (some ⟨bR3, 0, none⟩))]) (by kernel_rfl) (by decide) ?_
    rw [Option.bind_eq_some_iff] at h
    obtain ⟨t33, ht34, h⟩ := h
    refine WL.op (op := .call { callee := (.value (.func 7)), args := #[(.tmp 22), (.const (.int .i64 0)), (.const (.int .i64 9))], argTypes := #[22, 3, 3] }) (ty := 23) (d := some 23) (g := none) (by kernel_rfl) (by kernel_rfl) (by kernel_rfl) (Does.call (f := 7) (args := [.pointer (some ⟨bR3, 0, none⟩), .int .i64 0, .int .i64 9]) (by kernel_rfl) (fun W hI => (state_State_Retire_31_calls k t25.2 0 9 bR3 AR27p0_0 cR27p0_0 CR27p0_0 HR27p0_0 AR27p0_1 cR27p0_1 CR27p0_1 HR27p0_1 AR27p0_2 cR27p0_2 CR27p0_2 HR27p0_2 t33 ht34 hI))) ?_
    rintro _ _ _ ⟨AR35p0_0, cR35p0_0, CR35p0_0, AR35p0_1, cR35p0_1, CR35p0_1, AR35p0_2, cR35p0_2, CR35p0_2, rfl, HR35p0_0, HR35p0_1, HR35p0_2, rfl, rfl⟩
    refine WL.restQ 2 [1, 2, 3, 4, 5, 6] (L' := [(1, .pointer (some ⟨bR3, 0, none⟩)), (2, .int .i64 t9.1), (3, .int .i64 t17.1), (4, .int .i64 t25.1), (5, .int .i64 (t29.length : Int)), (6, .int .i64 t33.1)]) (by kernel_rfl) ?_
    rw [Option.bind_eq_some_iff] at h
    obtain ⟨os37, h, hk38⟩ := h
    refine WP.cut (fun L' G' Γ' => ∃ s37 : Bool, s37 = os37 ∧ L' = [(0, .bool s37)] ∧ G = G' ∧ Γ = Γ') ?_ ?_
    · clear hk38
      refine WP.region ?_
      refine WL.pure 0 3 [1, 3, 4, 5, 6, 26] (L' := [(1, .pointer (some ⟨bR3, 0, none⟩)), (3, .int .i64 t17.1), (4, .int .i64 t25.1), (5, .int .i64 (t29.length : Int)), (6, .int .i64 t33.1), (26, .bool (t9.1 == 0))]) (by kernel_rfl) (by decide) ?_
      refine WL.split 26 (b := (t9.1 == 0)) (by kernel_rfl) (fun hc => ?_) (fun hc => ?_)
      · replace hc := eq_of_beq hc
        rw [if_pos hc] at h
        have hc39 := hc
        clear hc
        refine WL.pure 3 7 [1, 4, 5, 6, 30] (L' := [(1, .pointer (some ⟨bR3, 0, none⟩)), (4, .int .i64 t25.1), (5, .int .i64 (t29.length : Int)), (6, .int .i64 t33.1), (30, .bool (t17.1 == 7))]) (by kernel_rfl) (by decide) ?_
        refine WL.split 30 (b := (t17.1 == 7)) (by kernel_rfl) (fun hc => ?_) (fun hc => ?_)
        · replace hc := eq_of_beq hc
          rw [if_pos hc] at h
          have hc40 := hc
          clear hc
          refine WL.pure 7 11 [1, 5, 6, 34] (L' := [(1, .pointer (some ⟨bR3, 0, none⟩)), (5, .int .i64 (t29.length : Int)), (6, .int .i64 t33.1), (34, .bool (t25.1 == 6))]) (by kernel_rfl) (by decide) ?_
          refine WL.split 34 (b := (t25.1 == 6)) (by kernel_rfl) (fun hc => ?_) (fun hc => ?_)
          · replace hc := eq_of_beq hc
            rw [if_pos hc] at h
            have hc41 := hc
            clear hc
            refine WL.pure 11 15 [1, 6, 38] (L' := [(1, .pointer (some ⟨bR3, 0, none⟩)), (6, .int .i64 t33.1), (38, .bool ((t29.length : Int) == 1))]) (by kernel_rfl) (by decide) ?_
            refine WL.split 38 (b := ((t29.length : Int) == 1)) (by kernel_rfl) (fun hc => ?_) (fun hc => ?_)
            · replace hc := eq_of_beq hc
              rw [if_pos hc] at h
              have hc42 := hc
              clear hc
              refine WL.pure 15 19 [1, 42] (L' := [(1, .pointer (some ⟨bR3, 0, none⟩)), (42, .bool (t33.1 == 0))]) (by kernel_rfl) (by decide) ?_
              refine WL.split 42 (b := (t33.1 == 0)) (by kernel_rfl) (fun hc => ?_) (fun hc => ?_)
              · replace hc := eq_of_beq hc
                rw [if_pos hc] at h
                have hc43 := hc
                clear hc
                refine WL.pure 19 20 [1, 42, 43] (L' := [(1, .pointer (some ⟨bR3, 0, none⟩)), (42, .bool true), (43, .pointer (some ⟨bR3, 0, none⟩))]) (by kernel_rfl) (by decide) ?_
                rw [Option.bind_eq_some_iff] at h
                obtain ⟨t44, ht45, h⟩ := h
                refine WL.op (op := .call { callee := (.value (.func 8)), args := #[(.tmp 43)], argTypes := #[22] }) (ty := 25) (d := some 44) (g := some (18, true)) (by kernel_rfl) (by kernel_rfl) (by kernel_rfl) (Does.call (f := 8) (args := [.pointer (some ⟨bR3, 0, none⟩)]) (by kernel_rfl) (fun W hI => (state_State_V_30_calls t33.2 bR3 AR35p0_0 cR35p0_0 CR35p0_0 HR35p0_0 AR35p0_1 cR35p0_1 CR35p0_1 HR35p0_1 AR35p0_2 cR35p0_2 CR35p0_2 HR35p0_2 t44 ht45 hI))) ?_
                rintro _ _ _ ⟨AR46, cR46, CR46, rfl, HR46, rfl, rfl⟩
                refine WL.op (op := .buildSlice 25 2 #[(0, (.const (.int .i64 1))), (1, (.const (.int .i64 0)))]) (ty := 25) (d := some 45) (g := some (18, true)) (by kernel_rfl) (by kernel_rfl) (by kernel_rfl) (Does.new (o := .cells #[.int .i64 1, .int .i64 0] 3 (0, 0)) (v := fun r => .slice (some ⟨r, 0, none⟩) 2 2) (fun r => by kernel_rfl)) ?_
                rintro _ _ _ ⟨b48, rfl, rfl, rfl⟩
                have Ho50 : Ow (kInt .i64) G (some ⟨b48, 0, none⟩) 2 ([1, 0] : List Int) [(b48, .cells #[.int .i64 1, .int .i64 0] 3 (0, 0))] := Ow.lit (kd := (kInt .i64)) (G := G) (b := b48) (T := 3) (xs := ([1, 0] : List Int)) (cs := [.int .i64 1, .int .i64 0]) (.cons (x := 1) (cs := [.int .i64 1]) (by exact rfl) (.cons (x := 0) (cs := [.int .i64 0]) (by exact rfl) .nil))
                rw [Option.bind_eq_some_iff] at h
                obtain ⟨t51, ht52, h⟩ := h
                refine WL.op (op := .call { callee := (.value (.func 26)), args := #[(.tmp 44), (.tmp 45)], argTypes := #[25, 25] }) (ty := 4) (d := some 46) (g := some (18, true)) (by kernel_rfl) (by kernel_rfl) (by kernel_rfl) (Does.call (Φ := fun v' G' Γ' => v' = .bool t51 ∧ G = G' ∧ [(b48, .cells #[.int .i64 1, .int .i64 0] 3 (0, 0))] :: CR46 :: [(bR3, .cells #[.slice AR35p0_0 t33.2.f0.length cR35p0_0, .slice AR35p0_1 t33.2.f1.length cR35p0_1, mpv AR35p0_2] 59 (0, 0))] :: CR35p0_0 :: CR35p0_1 :: CR35p0_2 :: Γ = Γ') (f := 26) (args := [.slice AR46 t44.length cR46, .slice (some ⟨b48, 0, none⟩) ([1, 0] : List Int).length 2]) (by kernel_rfl) (fun W hI => (Calls.lendN (Φ := fun v' N => v' = .bool t51 ∧ N = []) (H := []) (i := 1) rfl hI (fun _ e l55 nl55 hI => by subst e; exact Calls.lendN (Φ := fun v' N => v' = .bool t51 ∧ N = []) (H := []) (i := 0) rfl hI (fun _ e l56 nl56 hI => by subst e; exact (((grapevinelaw0_SameInts_calls k t44 ([1, 0] : List Int) AR46 cR46 ((HR46.rdN l55 nl55).mono l56) (some ⟨b48, 0, none⟩) 2 ((Ho50.mono l55).rdN l56 nl56) t51 ht52 hI)).mono fun _ _ hr => by obtain ⟨_, _, _, rfl, hd, hI⟩ := hr; obtain ⟨rfl, rfl, rfl⟩ := hd; exact ⟨_, _, _, rfl, ⟨[], ⟨rfl, rfl⟩, rfl, rfl⟩, hI⟩)))).mono fun _ _ hr => by obtain ⟨_, _, _, rfl, ⟨_, hd, rfl, rfl⟩, hI⟩ := hr; obtain ⟨rfl, rfl⟩ := hd; exact ⟨_, _, _, rfl, ⟨rfl, rfl, rfl⟩, hI⟩)) ?_
                rintro _ _ _ ⟨rfl, rfl, rfl⟩
                refine WL.pure 23 25 [1, 48] (L' := [(1, .pointer (some ⟨bR3, 0, none⟩)), (48, .bool t51)]) (by kernel_rfl) (by decide) ?_
                refine WL.split 48 (b := t51) (by kernel_rfl) (fun hc => ?_) (fun hc => ?_)
                · replace hc := hc
                  rw [if_pos hc] at h
                  have hc57 := hc
                  clear hc
                  refine WL.pure 25 26 [1, 48, 49] (L' := [(1, .pointer (some ⟨bR3, 0, none⟩)), (48, .bool true), (49, .pointer (some ⟨bR3, 0, none⟩))]) (by kernel_rfl) (by decide) ?_
                  refine WL.reperm (Γ' := [(bR3, .cells #[.slice AR35p0_0 t33.2.f0.length cR35p0_0, .slice AR35p0_1 t33.2.f1.length cR35p0_1, mpv AR35p0_2] 59 (0, 0))] :: CR35p0_0 :: CR35p0_1 :: CR35p0_2 :: [(b48, .cells #[.int .i64 1, .int .i64 0] 3 (0, 0))] :: CR46 :: Γ) (perm_sel [2, 3, 4, 5, 0, 1] (by kernel_rfl) rfl) ?_
                  rw [Option.bind_eq_some_iff] at h
                  obtain ⟨t58, ht59, h⟩ := h
                  refine WL.op (op := .call { callee := (.value (.func 9)), args := #[(.tmp 49)], argTypes := #[22] }) (ty := 25) (d := some 50) (g := some (24, true)) (by kernel_rfl) (by kernel_rfl) (by kernel_rfl) (Does.call (f := 9) (args := [.pointer (some ⟨bR3, 0, none⟩)]) (by kernel_rfl) (fun W hI => (state_State_W_27_calls t33.2 bR3 AR35p0_0 cR35p0_0 CR35p0_0 HR35p0_0 AR35p0_1 cR35p0_1 CR35p0_1 HR35p0_1 AR35p0_2 cR35p0_2 CR35p0_2 HR35p0_2 t58 ht59 hI))) ?_
                  rintro _ _ _ ⟨AR60, cR60, CR60, rfl, HR60, rfl, rfl⟩
                  refine WL.op (op := .buildSlice 25 2 #[(0, (.const (.int .i64 1))), (1, (.const (.int .i64 0)))]) (ty := 25) (d := some 51) (g := some (24, true)) (by kernel_rfl) (by kernel_rfl) (by kernel_rfl) (Does.new (o := .cells #[.int .i64 1, .int .i64 0] 3 (0, 0)) (v := fun r => .slice (some ⟨r, 0, none⟩) 2 2) (fun r => by kernel_rfl)) ?_
                  rintro _ _ _ ⟨b62, rfl, rfl, rfl⟩
                  have Ho64 : Ow (kInt .i64) G (some ⟨b62, 0, none⟩) 2 ([1, 0] : List Int) [(b62, .cells #[.int .i64 1, .int .i64 0] 3 (0, 0))] := Ow.lit (kd := (kInt .i64)) (G := G) (b := b62) (T := 3) (xs := ([1, 0] : List Int)) (cs := [.int .i64 1, .int .i64 0]) (.cons (x := 1) (cs := [.int .i64 1]) (by exact rfl) (.cons (x := 0) (cs := [.int .i64 0]) (by exact rfl) .nil))
                  rw [Option.bind_eq_some_iff] at h
                  obtain ⟨t65, ht66, h⟩ := h
                  refine WL.op (op := .call { callee := (.value (.func 26)), args := #[(.tmp 50), (.tmp 51)], argTypes := #[25, 25] }) (ty := 4) (d := some 52) (g := some (24, true)) (by kernel_rfl) (by kernel_rfl) (by kernel_rfl) (Does.call (Φ := fun v' G' Γ' => v' = .bool t65 ∧ G = G' ∧ [(b62, .cells #[.int .i64 1, .int .i64 0] 3 (0, 0))] :: CR60 :: [(bR3, .cells #[.slice AR35p0_0 t33.2.f0.length cR35p0_0, .slice AR35p0_1 t33.2.f1.length cR35p0_1, mpv AR35p0_2] 59 (0, 0))] :: CR35p0_0 :: CR35p0_1 :: CR35p0_2 :: [(b48, .cells #[.int .i64 1, .int .i64 0] 3 (0, 0))] :: CR46 :: Γ = Γ') (f := 26) (args := [.slice AR60 t58.length cR60, .slice (some ⟨b62, 0, none⟩) ([1, 0] : List Int).length 2]) (by kernel_rfl) (fun W hI => (Calls.lendN (Φ := fun v' N => v' = .bool t65 ∧ N = []) (H := []) (i := 1) rfl hI (fun _ e l69 nl69 hI => by subst e; exact Calls.lendN (Φ := fun v' N => v' = .bool t65 ∧ N = []) (H := []) (i := 0) rfl hI (fun _ e l70 nl70 hI => by subst e; exact (((grapevinelaw0_SameInts_calls k t58 ([1, 0] : List Int) AR60 cR60 ((HR60.rdN l69 nl69).mono l70) (some ⟨b62, 0, none⟩) 2 ((Ho64.mono l69).rdN l70 nl70) t65 ht66 hI)).mono fun _ _ hr => by obtain ⟨_, _, _, rfl, hd, hI⟩ := hr; obtain ⟨rfl, rfl, rfl⟩ := hd; exact ⟨_, _, _, rfl, ⟨[], ⟨rfl, rfl⟩, rfl, rfl⟩, hI⟩)))).mono fun _ _ hr => by obtain ⟨_, _, _, rfl, ⟨_, hd, rfl, rfl⟩, hI⟩ := hr; obtain ⟨rfl, rfl⟩ := hd; exact ⟨_, _, _, rfl, ⟨rfl, rfl, rfl⟩, hI⟩)) ?_
                  rintro _ _ _ ⟨rfl, rfl, rfl⟩
                  refine WL.pure 29 31 [1, 54] (L' := [(1, .pointer (some ⟨bR3, 0, none⟩)), (54, .bool t65)]) (by kernel_rfl) (by decide) ?_
                  refine WL.split 54 (b := t65) (by kernel_rfl) (fun hc => ?_) (fun hc => ?_)
                  · replace hc := hc
                    rw [if_pos hc] at h
                    have hc71 := hc
                    clear hc
                    refine WL.pure 31 32 [1, 54, 55] (L' := [(1, .pointer (some ⟨bR3, 0, none⟩)), (54, .bool true), (55, .pointer (some ⟨bR3, 0, none⟩))]) (by kernel_rfl) (by decide) ?_
                    refine WL.reperm (Γ' := [(bR3, .cells #[.slice AR35p0_0 t33.2.f0.length cR35p0_0, .slice AR35p0_1 t33.2.f1.length cR35p0_1, mpv AR35p0_2] 59 (0, 0))] :: CR35p0_0 :: CR35p0_1 :: CR35p0_2 :: [(b62, .cells #[.int .i64 1, .int .i64 0] 3 (0, 0))] :: CR60 :: [(b48, .cells #[.int .i64 1, .int .i64 0] 3 (0, 0))] :: CR46 :: Γ) (perm_sel [2, 3, 4, 5, 0, 1] (by kernel_rfl) rfl) ?_
                    rw [Option.bind_eq_some_iff] at h
                    obtain ⟨t72, ht73, h⟩ := h
                    refine WL.op (op := .call { callee := (.value (.func 10)), args := #[(.tmp 55)], argTypes := #[22] }) (ty := 24) (d := some 56) (g := some (30, true)) (by kernel_rfl) (by kernel_rfl) (by kernel_rfl) (Does.call (f := 10) (args := [.pointer (some ⟨bR3, 0, none⟩)]) (by kernel_rfl) (fun W hI => (state_State_Records_26_calls k t33.2 bR3 AR35p0_0 cR35p0_0 CR35p0_0 HR35p0_0 AR35p0_1 cR35p0_1 CR35p0_1 HR35p0_1 AR35p0_2 cR35p0_2 CR35p0_2 HR35p0_2 t72 ht73 hI))) ?_
                    rintro _ _ _ ⟨AR74, cR74, CR74, rfl, HR74, rfl, rfl⟩
                    refine WL.pure 33 37 [1, 60] (L' := [(1, .pointer (some ⟨bR3, 0, none⟩)), (60, .bool ((t72.length : Int) == 0))]) (by kernel_rfl) (by decide) ?_
                    refine WL.split 60 (b := ((t72.length : Int) == 0)) (by kernel_rfl) (fun hc => ?_) (fun hc => ?_)
                    · replace hc := eq_of_beq hc
                      rw [if_pos hc] at h
                      have hc76 := hc
                      clear hc
                      rw [Option.bind_eq_some_iff] at h
                      obtain ⟨t77, ht78, h⟩ := h
                      refine WL.op (op := .call { callee := (.value (.func 28)), args := #[(.const (.int .i64 0))], argTypes := #[3] }) (ty := 22) (d := some 61) (g := some (36, true)) (by kernel_rfl) (by kernel_rfl) (by kernel_rfl) (Does.call (f := 28) (args := [.int .i64 0]) (by kernel_rfl) (fun W hI => (state_New_calls 0  t77 ht78 hI))) ?_
                      rintro _ _ _ (⟨hx, rfl, rfl, rfl⟩ | ⟨x80, hx, bR79, AR79_0, cR79_0, CR79_0, AR79_1, cR79_1, CR79_1, AR79_2, cR79_2, CR79_2, rfl, HR79_0, HR79_1, HR79_2, rfl, rfl⟩)
                      · rw [hx] at h
                        rw [Option.elim_none] at h
                        clear hx
                        refine WL.pure 38 43 [64, 65, 66] (L' := [(64, .bool true), (65, .pointer (some ⟨bR3, 0, none⟩)), (66, .pointer (some ⟨bR3, 0, none⟩))]) (by kernel_rfl) (by decide) ?_
                        refine WL.reperm (Γ' := [(bR3, .cells #[.slice AR35p0_0 t33.2.f0.length cR35p0_0, .slice AR35p0_1 t33.2.f1.length cR35p0_1, mpv AR35p0_2] 59 (0, 0))] :: CR35p0_0 :: CR35p0_1 :: CR35p0_2 :: CR74 :: [(b62, .cells #[.int .i64 1, .int .i64 0] 3 (0, 0))] :: CR60 :: [(b48, .cells #[.int .i64 1, .int .i64 0] 3 (0, 0))] :: CR46 :: Γ) (perm_sel [1, 2, 3, 4, 0] (by kernel_rfl) rfl) ?_
                        rw [Option.bind_eq_some_iff] at h
                        obtain ⟨t81, ht82, h⟩ := h
                        refine WL.op (op := .call { callee := (.value (.func 13)), args := #[(.tmp 66)], argTypes := #[22] }) (ty := 22) (d := some 67) (g := some (40, true)) (by kernel_rfl) (by kernel_rfl) (by kernel_rfl) (Does.call (f := 13) (args := [.pointer (some ⟨bR3, 0, none⟩)]) (by kernel_rfl) (fun W hI => (state_State_Copy_39_calls t33.2 bR3 AR35p0_0 cR35p0_0 CR35p0_0 HR35p0_0 AR35p0_1 cR35p0_1 CR35p0_1 HR35p0_1 AR35p0_2 cR35p0_2 CR35p0_2 HR35p0_2 t81 ht82 hI))) ?_
                        rintro _ _ _ ⟨bR83, AR83_0, cR83_0, CR83_0, AR83_1, cR83_1, CR83_1, AR83_2, cR83_2, CR83_2, rfl, HR83_0, HR83_1, HR83_2, rfl, rfl⟩
                        refine WL.reperm (Γ' := [(bR3, .cells #[.slice AR35p0_0 t33.2.f0.length cR35p0_0, .slice AR35p0_1 t33.2.f1.length cR35p0_1, mpv AR35p0_2] 59 (0, 0))] :: CR35p0_0 :: CR35p0_1 :: CR35p0_2 :: [(bR83, .cells #[.slice AR83_0 t81.f0.length cR83_0, .slice AR83_1 t81.f1.length cR83_1, mpv AR83_2] 59 (0, 0))] :: CR83_0 :: CR83_1 :: CR83_2 :: CR74 :: [(b62, .cells #[.int .i64 1, .int .i64 0] 3 (0, 0))] :: CR60 :: [(b48, .cells #[.int .i64 1, .int .i64 0] 3 (0, 0))] :: CR46 :: Γ) (perm_sel [4, 5, 6, 7, 0, 1, 2, 3] (by kernel_rfl) rfl) ?_
                        rw [Option.bind_eq_some_iff] at h
                        obtain ⟨t85, ht86, h⟩ := h
                        refine WL.op (op := .call { callee := (.value (.func 29)), args := #[(.tmp 65), (.tmp 67)], argTypes := #[22, 22] }) (ty := 4) (d := some 68) (g := some (40, true)) (by kernel_rfl) (by kernel_rfl) (by kernel_rfl) (Does.call (f := 29) (args := [.pointer (some ⟨bR3, 0, none⟩), .pointer (some ⟨bR83, 0, none⟩)]) (by kernel_rfl) (fun W hI => (state_Same_calls k t33.2 t81 bR3 AR35p0_0 cR35p0_0 CR35p0_0 HR35p0_0 AR35p0_1 cR35p0_1 CR35p0_1 HR35p0_1 AR35p0_2 cR35p0_2 CR35p0_2 HR35p0_2 bR83 AR83_0 cR83_0 CR83_0 HR83_0 AR83_1 cR83_1 CR83_1 HR83_1 AR83_2 cR83_2 CR83_2 HR83_2 t85 ht86 hI))) ?_
                        rintro _ _ _ ⟨rfl, rfl, rfl⟩
                        refine WL.rest 45 [0] (L' := [(0, .bool t85)]) (by kernel_rfl) ?_
                        refine QP.dropAt 12 ?_
                        refine QP.dropAt 11 ?_
                        refine QP.dropAt 10 ?_
                        refine QP.dropAt 9 ?_
                        refine QP.dropAt 8 ?_
                        refine QP.dropAt 7 ?_
                        refine QP.dropAt 6 ?_
                        refine QP.dropAt 5 ?_
                        refine QP.dropAt 4 ?_
                        refine QP.dropAt 3 ?_
                        refine QP.dropAt 2 ?_
                        refine QP.dropAt 1 ?_
                        refine QP.dropAt 0 ?_
                        refine QP.pick [0] ?_
                        exact QP.meet ⟨_, Option.some.inj h, rfl, rfl, rfl⟩
                      · rw [hx] at h
                        rw [Option.elim_some] at h
                        clear hx
                        refine WL.rest 38 [0] (L' := [(0, .bool false)]) (by kernel_rfl) ?_
                        refine QP.dropAt 12 ?_
                        refine QP.dropAt 11 ?_
                        refine QP.dropAt 10 ?_
                        refine QP.dropAt 9 ?_
                        refine QP.dropAt 8 ?_
                        refine QP.dropAt 7 ?_
                        refine QP.dropAt 6 ?_
                        refine QP.dropAt 5 ?_
                        refine QP.dropAt 4 ?_
                        refine QP.dropAt 3 ?_
                        refine QP.dropAt 2 ?_
                        refine QP.dropAt 1 ?_
                        refine QP.dropAt 0 ?_
                        refine QP.pick [0] ?_
                        exact QP.meet ⟨_, Option.some.inj h, rfl, rfl, rfl⟩
                    · replace hc := ne_of_beq_false hc
                      rw [if_neg hc] at h
                      have hc76 := hc
                      clear hc
                      refine WL.rest 37 [0] (L' := [(0, .bool false)]) (by kernel_rfl) ?_
                      refine QP.dropAt 8 ?_
                      refine QP.dropAt 7 ?_
                      refine QP.dropAt 6 ?_
                      refine QP.dropAt 5 ?_
                      refine QP.dropAt 4 ?_
                      refine QP.dropAt 3 ?_
                      refine QP.dropAt 2 ?_
                      refine QP.dropAt 1 ?_
                      refine QP.dropAt 0 ?_
                      refine QP.pick [0] ?_
                      exact QP.meet ⟨_, Option.some.inj h, rfl, rfl, rfl⟩
                  · replace hc := (Bool.eq_false_iff.1 hc)
                    rw [if_neg hc] at h
                    have hc71 := hc
                    clear hc
                    refine WL.rest 31 [0] (L' := [(0, .bool false)]) (by kernel_rfl) ?_
                    refine QP.dropAt 7 ?_
                    refine QP.dropAt 6 ?_
                    refine QP.dropAt 5 ?_
                    refine QP.dropAt 4 ?_
                    refine QP.dropAt 3 ?_
                    refine QP.dropAt 2 ?_
                    refine QP.dropAt 1 ?_
                    refine QP.dropAt 0 ?_
                    refine QP.pick [0] ?_
                    exact QP.meet ⟨_, Option.some.inj h, rfl, rfl, rfl⟩
                · replace hc := (Bool.eq_false_iff.1 hc)
                  rw [if_neg hc] at h
                  have hc57 := hc
                  clear hc
                  refine WL.rest 25 [0] (L' := [(0, .bool false)]) (by kernel_rfl) ?_
                  refine QP.dropAt 5 ?_
                  refine QP.dropAt 4 ?_
                  refine QP.dropAt 3 ?_
                  refine QP.dropAt 2 ?_
                  refine QP.dropAt 1 ?_
                  refine QP.dropAt 0 ?_
                  refine QP.pick [0] ?_
                  exact QP.meet ⟨_, Option.some.inj h, rfl, rfl, rfl⟩
              · replace hc := ne_of_beq_false hc
                rw [if_neg hc] at h
                have hc43 := hc
                clear hc
                refine WL.rest 19 [0] (L' := [(0, .bool false)]) (by kernel_rfl) ?_
                refine QP.dropAt 3 ?_
                refine QP.dropAt 2 ?_
                refine QP.dropAt 1 ?_
                refine QP.dropAt 0 ?_
                refine QP.pick [0] ?_
                exact QP.meet ⟨_, Option.some.inj h, rfl, rfl, rfl⟩
            · replace hc := ne_of_beq_false hc
              rw [if_neg hc] at h
              have hc42 := hc
              clear hc
              refine WL.rest 15 [0] (L' := [(0, .bool false)]) (by kernel_rfl) ?_
              refine QP.dropAt 3 ?_
              refine QP.dropAt 2 ?_
              refine QP.dropAt 1 ?_
              refine QP.dropAt 0 ?_
              refine QP.pick [0] ?_
              exact QP.meet ⟨_, Option.some.inj h, rfl, rfl, rfl⟩
          · replace hc := ne_of_beq_false hc
            rw [if_neg hc] at h
            have hc41 := hc
            clear hc
            refine WL.rest 11 [0] (L' := [(0, .bool false)]) (by kernel_rfl) ?_
            refine QP.dropAt 3 ?_
            refine QP.dropAt 2 ?_
            refine QP.dropAt 1 ?_
            refine QP.dropAt 0 ?_
            refine QP.pick [0] ?_
            exact QP.meet ⟨_, Option.some.inj h, rfl, rfl, rfl⟩
        · replace hc := ne_of_beq_false hc
          rw [if_neg hc] at h
          have hc40 := hc
          clear hc
          refine WL.rest 7 [0] (L' := [(0, .bool false)]) (by kernel_rfl) ?_
          refine QP.dropAt 3 ?_
          refine QP.dropAt 2 ?_
          refine QP.dropAt 1 ?_
          refine QP.dropAt 0 ?_
          refine QP.pick [0] ?_
          exact QP.meet ⟨_, Option.some.inj h, rfl, rfl, rfl⟩
      · replace hc := ne_of_beq_false hc
        rw [if_neg hc] at h
        have hc39 := hc
        clear hc
        refine WL.rest 3 [0] (L' := [(0, .bool false)]) (by kernel_rfl) ?_
        refine QP.dropAt 3 ?_
        refine QP.dropAt 2 ?_
        refine QP.dropAt 1 ?_
        refine QP.dropAt 0 ?_
        refine QP.pick [0] ?_
        exact QP.meet ⟨_, Option.some.inj h, rfl, rfl, rfl⟩
    · rintro _ _ _ ⟨s37, rfl, rfl, rfl, rfl⟩
      clear h
      replace h := hk38
      refine WP.ret ?_
      obtain rfl := Option.some.inj h
      exact QP.returned [0] [.bool s37] _ (by kernel_rfl) (by kernel_rfl) (by kernel_rfl) (fun W hI => ⟨_, _, _, rfl, ⟨rfl, rfl, rfl⟩, hI⟩)
end Go.Proofs.YtcapnncebfgcfaaGreatDoor.Gf
