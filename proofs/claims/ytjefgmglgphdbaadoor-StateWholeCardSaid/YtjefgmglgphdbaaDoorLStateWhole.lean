/- Walks of Go functions: what each tells, as a plain Lean function, and that the Go code comes to it. Written by gg.py of this repo. -/
import Derived.Test.YtjefgmglgphdbaaDoorT
import Derived.Test.YtjefgmglgphdbaaDoorF0
import Derived.Test.YtjefgmglgphdbaaDoorF1
namespace Go.Proofs.YtjefgmglgphdbaaDoor.Gf
open Go Go.Gg
set_option maxRecDepth 100000
set_option linter.unusedVariables false
set_option linter.unusedSimpArgs false

/-! ### grapevine/grapevinelaw19.StateWhole: function 3 -/
noncomputable def grapevinelaw19_StateWhole_l0 (l1 : List T36) : Nat → Int → T63 → Option (Sum Bool T63)
  | 0, _, _ => none
  | k + 1, y20, y21 => (if y20 < (l1.length : Int) then ((state_State_V y21).bind fun t25 => ((state_State_W y21).bind fun t29 => (if 0 ≤ y20 ∧ y20 < (l1.length : Int) then (if ((l1.getD y20.toNat z36).f0) = 0 then (if 0 ≤ y20 ∧ y20 < (l1.length : Int) then ((state_State_Accept y21 (⟨(l1.getD y20.toNat z36).f3, (l1.getD y20.toNat z36).f4, (l1.getD y20.toNat z36).f5, (l1.getD y20.toNat z36).f6, (l1.getD y20.toNat z36).f7⟩ : T34)).bind fun t38 => (((state_State_V t38.2).bind fun t44 => ((grapevineref3_Below k t25 t44).bind fun t48 => (if (!t48) = true then some true else ((state_State_W t38.2).bind fun t55 => ((grapevineref3_Below k t29 t55).bind fun t59 => (if (!t59) = true then some true else ((grapevinelaw19_whole k t38.2).bind fun t66 => some (!t66)))))))).bind fun s42 => (if s42 = true then some (Sum.inl false) else grapevinelaw19_StateWhole_l0 l1 k (IntKind.i64.wrap (y20 + 1)) t38.2))) else none) else (if ((l1.getD y20.toNat z36).f0) = 1 then (if 0 ≤ y20 ∧ y20 < (l1.length : Int) then (if 0 ≤ y20 ∧ y20 < (l1.length : Int) then ((state_State_Retire k y21 ((l1.getD y20.toNat z36).f1) ((l1.getD y20.toNat z36).f2)).bind fun t76 => (((state_State_V t76.2).bind fun t82 => ((grapevineref3_Below k t25 t82).bind fun t86 => (if (!t86) = true then some true else ((state_State_W t76.2).bind fun t93 => ((grapevineref3_Below k t29 t93).bind fun t97 => (if (!t97) = true then some true else ((grapevinelaw19_whole k t76.2).bind fun t104 => some (!t104)))))))).bind fun s80 => (if s80 = true then some (Sum.inl false) else grapevinelaw19_StateWhole_l0 l1 k (IntKind.i64.wrap (y20 + 1)) t76.2))) else none) else none) else (if 0 ≤ y20 ∧ y20 < (l1.length : Int) then ((state_State_Raise k y21 ((l1.getD y20.toNat z36).f8)).bind fun t111 => (((state_State_V t111.2).bind fun t117 => ((grapevineref3_Below k t25 t117).bind fun t121 => (if (!t121) = true then some true else ((state_State_W t111.2).bind fun t128 => ((grapevineref3_Below k t29 t128).bind fun t132 => (if (!t132) = true then some true else ((grapevinelaw19_whole k t111.2).bind fun t139 => some (!t139)))))))).bind fun s115 => (if s115 = true then some (Sum.inl false) else grapevinelaw19_StateWhole_l0 l1 k (IntKind.i64.wrap (y20 + 1)) t111.2))) else none))) else none))) else some (Sum.inr y21))
noncomputable def grapevinelaw19_StateWhole (k : Nat) (a0 : Int) (l1 : List T36) : Option Bool := ((state_New a0).bind fun t1 => Option.elim t1 ((grapevinelaw19_awake k ).bind fun t5 => some t5) (fun x4 => ((grapevinelaw19_great k l1 50).bind fun t9 => (if t9 = true then ((grapevinelaw19_awake k ).bind fun t14 => some t14) else ((grapevinelaw19_StateWhole_l0 l1 k 0 x4).bind fun os18 => match os18 with | Sum.inl r => some r | Sum.inr s18 => (((grapevinelaw19_whole k s18).bind fun t146 => (if t146 = true then ((grapevinelaw19_awake k ).bind fun t151 => some t151) else some false)).bind fun s144 => some s144))))))
set_option maxHeartbeats 4000000 in
theorem grapevinelaw19_StateWhole_calls {B : World} {G : GMap} {Γ : List Chunk} {W : World} (HT : Tabs B G) (k : Nat) (a0 : Int) (l1 : List T36) (Al1 : Option Addr) (cl1 : Nat) (Hl1 : Rd k36 G Al1 cl1 l1) (r : Bool) (h : grapevinelaw19_StateWhole k a0 l1 = some r) (hI : Inv B G (Γ) W) :
    Calls Tryd.prog 3 [.int .i64 a0, .slice Al1 l1.length cl1].toArray W (Ret B (fun v G' Γ' => v = .bool r ∧ G = G' ∧ Γ = Γ')) := by
  refine calls_WP (Γ := Γ) (G := G) (B := B) Tryd.func3 rfl (by kernel_rfl) ?_ hI
  clear hI
  unfold grapevinelaw19_StateWhole at h
  refine WP.seqP [0, 1] (L' := [(0, .int .i64 a0), (1, .slice Al1 l1.length cl1)]) (by kernel_rfl) ?_
  refine WP.seqR ?_
  refine WL.pure 0 1 [1, 9] (L' := [(1, .slice Al1 l1.length cl1), (9, .int .i64 a0)]) (by kernel_rfl) (by decide) ?_
  rw [Option.bind_eq_some_iff] at h
  obtain ⟨t1, ht2, h⟩ := h
  refine WL.op (op := .call { callee := (.value (.func 8)), args := #[(.tmp 9)], argTypes := #[3] }) (ty := 23) (d := some 10) (g := none) (by kernel_rfl) (by kernel_rfl) (by kernel_rfl) (Does.call (f := 8) (args := [.int .i64 a0]) (by kernel_rfl) (fun W hI => (state_New_calls a0  t1 ht2 hI))) ?_
  rintro _ _ _ (⟨hx, rfl, rfl, rfl⟩ | ⟨x4, hx, bR3, AR3_0, cR3_0, CR3_0, AR3_1, cR3_1, CR3_1, AR3_2, cR3_2, CR3_2, rfl, HR3_0, HR3_1, HR3_2, rfl, rfl⟩)
  · rw [hx] at h
    rw [Option.elim_none] at h
    clear hx
    refine WL.restQ 2 [1, 5] (L' := [(1, .slice Al1 l1.length cl1), (5, .pointer none)]) (by kernel_rfl) ?_
    refine WP.seq ?_
    refine WP.seqP [1, 5, 16] (L' := [(1, .slice Al1 l1.length cl1), (5, .pointer none), (16, .bool true)]) (by kernel_rfl) ?_
    refine WP.yes (by kernel_rfl) ?_
    refine WP.seqR ?_
    rw [Option.bind_eq_some_iff] at h
    obtain ⟨t5, ht6, h⟩ := h
    refine WL.op (op := .call { callee := (.value (.func 10)), args := #[], argTypes := #[] }) (ty := 4) (d := some 17) (g := none) (by kernel_rfl) (by kernel_rfl) (by kernel_rfl) (Does.call (f := 10) (args := []) (by kernel_rfl) (fun W hI => (grapevinelaw19_awake_calls HT k   t5 ht6 hI))) ?_
    rintro _ _ _ ⟨rfl, rfl, rfl⟩
    refine WL.restQ 1 [4] (L' := [(4, .bool t5)]) (by kernel_rfl) ?_
    refine WP.ret ?_
    refine QP.thenR ?_
    obtain rfl := Option.some.inj h
    exact QP.returned [4] [.bool t5] _ (by kernel_rfl) (by kernel_rfl) (by kernel_rfl) (fun W hI => ⟨_, _, _, rfl, ⟨rfl, rfl, rfl⟩, hI⟩)
  · rw [hx] at h
    rw [Option.elim_some] at h
    clear hx
    refine WL.restQ 2 [1, 5] (L' := [(1, .slice Al1 l1.length cl1), (5, .pointer (some ⟨bR3, 0, none⟩))]) (by kernel_rfl) ?_
    refine WP.seq ?_
    refine WP.seqR ?_
    refine WL.pure 0 4 [1, 5, 13, 14] (L' := [(1, .slice Al1 l1.length cl1), (5, .pointer (some ⟨bR3, 0, none⟩)), (13, .bool false), (14, .slice Al1 l1.length cl1)]) (by kernel_rfl) (by decide) ?_
    rw [Option.bind_eq_some_iff] at h
    obtain ⟨t9, ht10, h⟩ := h
    refine WL.op (op := .call { callee := (.value (.func 9)), args := #[(.tmp 14), (.const (.int .i64 50))], argTypes := #[22, 3] }) (ty := 4) (d := some 15) (g := some (2, false)) (by kernel_rfl) (by kernel_rfl) (by kernel_rfl) (Does.call (f := 9) (args := [.slice Al1 l1.length cl1, .int .i64 50]) (by kernel_rfl) (fun W hI => (grapevinelaw19_great_calls k l1 50 Al1 cl1 Hl1 t9 ht10 hI))) ?_
    rintro _ _ _ ⟨rfl, rfl, rfl⟩
    refine WL.restQ 5 [1, 5, 16] (L' := [(1, .slice Al1 l1.length cl1), (5, .pointer (some ⟨bR3, 0, none⟩)), (16, .bool t9)]) (by kernel_rfl) ?_
    refine WP.cond (b := t9) (by kernel_rfl) (fun hc => ?_) (fun hc => ?_)
    · replace hc := hc
      rw [if_pos hc] at h
      have hc13 := hc
      clear hc
      refine WP.seqR ?_
      rw [Option.bind_eq_some_iff] at h
      obtain ⟨t14, ht15, h⟩ := h
      refine WL.op (op := .call { callee := (.value (.func 10)), args := #[], argTypes := #[] }) (ty := 4) (d := some 17) (g := none) (by kernel_rfl) (by kernel_rfl) (by kernel_rfl) (Does.call (f := 10) (args := []) (by kernel_rfl) (fun W hI => (grapevinelaw19_awake_calls HT k   t14 ht15 hI))) ?_
      rintro _ _ _ ⟨rfl, rfl, rfl⟩
      refine WL.restQ 1 [4] (L' := [(4, .bool t14)]) (by kernel_rfl) ?_
      refine WP.dropAt 3 ?_
      refine WP.dropAt 2 ?_
      refine WP.dropAt 1 ?_
      refine WP.dropAt 0 ?_
      refine WP.ret ?_
      refine QP.thenR ?_
      obtain rfl := Option.some.inj h
      exact QP.returned [4] [.bool t14] _ (by kernel_rfl) (by kernel_rfl) (by kernel_rfl) (fun W hI => ⟨_, _, _, rfl, ⟨rfl, rfl, rfl⟩, hI⟩)
    · replace hc := (Bool.eq_false_iff.1 hc)
      rw [if_neg hc] at h
      have hc13 := hc
      clear hc
      refine WP.skip ?_
      refine QP.next ?_
      refine WP.pick [1, 5] ?_
      refine WP.seq ?_
      refine WP.seqP [1, 5, 6] (L' := [(1, .slice Al1 l1.length cl1), (5, .pointer (some ⟨bR3, 0, none⟩)), (6, .int .i64 0)]) (by kernel_rfl) ?_
      rw [Option.bind_eq_some_iff] at h
      obtain ⟨os18, h, hk19⟩ := h
      refine WP.cutQ (fun L' G' Γ' => ∃ s18 : T63, Sum.inr s18 = os18 ∧ ∃ (As18_f0 : Option Addr), ∃ (cs18_f0 : Nat), ∃ (Cs18_f0 : Chunk), ∃ (As18_f1 : Option Addr), ∃ (cs18_f1 : Nat), ∃ (Cs18_f1 : Chunk), ∃ (As18_f2 : Option Addr), ∃ (cs18_f2 : Nat), ∃ (Cs18_f2 : Chunk), L' = [(5, .pointer (some ⟨bR3, 0, none⟩))] ∧ G = G' ∧ [(bR3, .cells #[.slice As18_f0 s18.f0.length cs18_f0, .slice As18_f1 s18.f1.length cs18_f1, mpv As18_f2] 63 (0, 0))] :: Cs18_f0 :: Cs18_f1 :: Cs18_f2 :: Γ = Γ' ∧ Ow (kInt .i64) G As18_f0 cs18_f0 s18.f0 Cs18_f0 ∧ Ow (kInt .i64) G As18_f1 cs18_f1 s18.f1 Cs18_f1 ∧ MpF m61 G As18_f2 cs18_f2 s18.f2 Cs18_f2) ?_ ?_
      · skip
        refine WP.block ?_
        refine WP.pick [1, 5, 6] ?_
        refine WP.loopF (fun kn22 L' G' Γ' => ∃ (y20 : Int), ∃ (y21 : T63), grapevinelaw19_StateWhole_l0 l1 kn22 y20 y21 = some os18 ∧ ∃ (Ay21_f0 : Option Addr), ∃ (cy21_f0 : Nat), ∃ (Cy21_f0 : Chunk), ∃ (Ay21_f1 : Option Addr), ∃ (cy21_f1 : Nat), ∃ (Cy21_f1 : Chunk), ∃ (Ay21_f2 : Option Addr), ∃ (cy21_f2 : Nat), ∃ (Cy21_f2 : Chunk), L' = [(1, .slice Al1 l1.length cl1), (5, .pointer (some ⟨bR3, 0, none⟩)), (6, .int .i64 y20)] ∧ G = G' ∧ [(bR3, .cells #[.slice Ay21_f0 y21.f0.length cy21_f0, .slice Ay21_f1 y21.f1.length cy21_f1, mpv Ay21_f2] 63 (0, 0))] :: Cy21_f0 :: Cy21_f1 :: Cy21_f2 :: Γ = Γ' ∧ Ow (kInt .i64) G Ay21_f0 cy21_f0 y21.f0 Cy21_f0 ∧ Ow (kInt .i64) G Ay21_f1 cy21_f1 y21.f1 Cy21_f1 ∧ MpF m61 G Ay21_f2 cy21_f2 y21.f2 Cy21_f2) ?_ k ⟨0, x4, h, AR3_0, cR3_0, CR3_0, AR3_1, cR3_1, CR3_1, AR3_2, cR3_2, CR3_2, rfl, rfl, rfl, HR3_0, HR3_1, HR3_2⟩
        clear h
        rintro kn23 _ _ _ ⟨y20, y21, h, Ay21_f0, cy21_f0, Cy21_f0, Ay21_f1, cy21_f1, Cy21_f1, Ay21_f2, cy21_f2, Cy21_f2, rfl, rfl, rfl, Hy21_f0, Hy21_f1, Hy21_f2⟩
        cases kn23 with
        | zero => exact absurd h (by simp [grapevinelaw19_StateWhole_l0])
        | succ kn23 =>
          simp only [grapevinelaw19_StateWhole_l0] at h
          refine WP.seq ?_
          refine WP.seqP [1, 5, 6, 21] (L' := [(1, .slice Al1 l1.length cl1), (5, .pointer (some ⟨bR3, 0, none⟩)), (6, .int .i64 y20), (21, .bool (decide (y20 < (l1.length : Int))))]) (by kernel_rfl) ?_
          refine WP.cond (b := decide (y20 < (l1.length : Int))) (by kernel_rfl) (fun hc => ?_) (fun hc => ?_)
          · replace hc := of_decide_eq_true hc
            rw [if_pos hc] at h
            have hc24 := hc
            clear hc
            refine WP.skip ?_
            refine QP.next ?_
            refine WP.pick [1, 5, 6] ?_
            refine WP.seq ?_
            refine WP.block ?_
            refine WP.seqR ?_
            refine WL.pure 0 1 [1, 5, 6, 24] (L' := [(1, .slice Al1 l1.length cl1), (5, .pointer (some ⟨bR3, 0, none⟩)), (6, .int .i64 y20), (24, .pointer (some ⟨bR3, 0, none⟩))]) (by kernel_rfl) (by decide) ?_
            refine WL.front (i := 3) rfl ?_
            refine WL.front (i := 3) rfl ?_
            refine WL.front (i := 3) rfl ?_
            refine WL.front (i := 3) rfl ?_
            rw [Option.bind_eq_some_iff] at h
            obtain ⟨t25, ht26, h⟩ := h
            refine WL.op (op := .call { callee := (.value (.func 11)), args := #[(.tmp 24)], argTypes := #[23] }) (ty := 27) (d := some 25) (g := none) (by kernel_rfl) (by kernel_rfl) (by kernel_rfl) (Does.call (f := 11) (args := [.pointer (some ⟨bR3, 0, none⟩)]) (by kernel_rfl) (fun W hI => (state_State_V_calls y21 bR3 Ay21_f0 cy21_f0 Cy21_f0 Hy21_f0 Ay21_f1 cy21_f1 Cy21_f1 Hy21_f1 Ay21_f2 cy21_f2 Cy21_f2 Hy21_f2 t25 ht26 hI))) ?_
            rintro _ _ _ ⟨AR27, cR27, CR27, rfl, HR27, rfl, rfl⟩
            refine WL.pure 2 3 [1, 5, 6, 25, 26] (L' := [(1, .slice Al1 l1.length cl1), (5, .pointer (some ⟨bR3, 0, none⟩)), (6, .int .i64 y20), (25, .slice AR27 t25.length cR27), (26, .pointer (some ⟨bR3, 0, none⟩))]) (by kernel_rfl) (by decide) ?_
            refine WL.front (i := 4) rfl ?_
            refine WL.front (i := 4) rfl ?_
            refine WL.front (i := 4) rfl ?_
            refine WL.front (i := 4) rfl ?_
            rw [Option.bind_eq_some_iff] at h
            obtain ⟨t29, ht30, h⟩ := h
            refine WL.op (op := .call { callee := (.value (.func 12)), args := #[(.tmp 26)], argTypes := #[23] }) (ty := 27) (d := some 27) (g := none) (by kernel_rfl) (by kernel_rfl) (by kernel_rfl) (Does.call (f := 12) (args := [.pointer (some ⟨bR3, 0, none⟩)]) (by kernel_rfl) (fun W hI => (state_State_W_calls y21 bR3 Ay21_f0 cy21_f0 Cy21_f0 Hy21_f0 Ay21_f1 cy21_f1 Cy21_f1 Hy21_f1 Ay21_f2 cy21_f2 Cy21_f2 Hy21_f2 t29 ht30 hI))) ?_
            rintro _ _ _ ⟨AR31, cR31, CR31, rfl, HR31, rfl, rfl⟩
            refine WL.restQ 4 [1, 5, 6, 7, 8] (L' := [(1, .slice Al1 l1.length cl1), (5, .pointer (some ⟨bR3, 0, none⟩)), (6, .int .i64 y20), (7, .slice AR27 t25.length cR27), (8, .slice AR31 t29.length cR31)]) (by kernel_rfl) ?_
            refine WP.seq ?_
            refine WP.seqR ?_
            refine WL.pure 0 2 [1, 5, 6, 7, 8, 28, 29] (L' := [(1, .slice Al1 l1.length cl1), (5, .pointer (some ⟨bR3, 0, none⟩)), (6, .int .i64 y20), (7, .slice AR27 t25.length cR27), (8, .slice AR31 t29.length cR31), (28, .slice Al1 l1.length cl1), (29, .int .i64 y20)]) (by kernel_rfl) (by decide) ?_
            by_cases hb33 : 0 ≤ y20 ∧ y20 < (l1.length : Int)
            case neg => rw [if_neg hb33] at h; cases h
            rw [if_pos hb33] at h
            refine WL.tell (op := .indexAddr 22 (.tmp 28) (.tmp 29)) (ty := 0) (d := some 30) (g := none) (by kernel_rfl) (by kernel_rfl) (by kernel_rfl) (Tells.indexAddr (A := Al1) (n := l1.length) (c := cl1) (k := .i64) (j := y20) (by kernel_rfl) (by kernel_rfl) (Hl1.isSome hb33.1 hb33.2) hb33.1 hb33.2 sl22) ?_
            refine WL.tell (op := .fieldAddr 36 (.tmp 30) 0) (ty := 0) (d := some 31) (g := none) (by kernel_rfl) (by kernel_rfl) (by kernel_rfl) (Tells.fieldElem (m := y20.toNat * 9) (A := Al1) (by kernel_rfl) (Hl1.isSome hb33.1 hb33.2) fi36_0) ?_
            refine WL.tellE (op := .load 3 (.tmp 31)) (ty := 3) (d := some 32) (g := none) (by kernel_rfl) (by kernel_rfl) (by kernel_rfl) (Hl1.loadF (agg := false) (off := 0) hb33.1 hb33.2 z36 ag3 (fun _ => rfl) (by decide) (by kernel_rfl)) ?_
            rintro _ ⟨_, _, rfl, rfl, ⟨_, _, rfl, rfl, ⟨_, _, rfl, rfl, ⟨_, _, rfl, rfl, ⟨_, _, rfl, rfl, ⟨_, _, rfl, rfl, ⟨_, _, rfl, rfl, ⟨_, _, rfl, rfl, ⟨Ae34, ce34, rfl, He34⟩⟩⟩⟩⟩⟩⟩⟩⟩
            replace He34 : Rd (kInt .i64) G Ae34 ce34 ((l1.getD y20.toNat z36).f8) := He34
            refine WL.restQ 5 [1, 5, 6, 7, 8, 32] (L' := [(1, .slice Al1 l1.length cl1), (5, .pointer (some ⟨bR3, 0, none⟩)), (6, .int .i64 y20), (7, .slice AR27 t25.length cR27), (8, .slice AR31 t29.length cR31), (32, .int .i64 ((l1.getD y20.toNat z36).f0))]) (by kernel_rfl) ?_
            refine WP.block ?_
            refine WP.seqP [1, 5, 6, 7, 8, 32, 40] (L' := [(1, .slice Al1 l1.length cl1), (5, .pointer (some ⟨bR3, 0, none⟩)), (6, .int .i64 y20), (7, .slice AR27 t25.length cR27), (8, .slice AR31 t29.length cR31), (32, .int .i64 ((l1.getD y20.toNat z36).f0)), (40, .bool (((l1.getD y20.toNat z36).f0) == 0))]) (by kernel_rfl) ?_
            refine WP.cond (b := (((l1.getD y20.toNat z36).f0) == 0)) (by kernel_rfl) (fun hc => ?_) (fun hc => ?_)
            · replace hc := eq_of_beq hc
              rw [if_pos hc] at h
              have hc35 := hc
              clear hc
              refine WP.region ?_
              refine WL.pure 0 3 [1, 5, 6, 7, 8, 42, 43, 44] (L' := [(1, .slice Al1 l1.length cl1), (5, .pointer (some ⟨bR3, 0, none⟩)), (6, .int .i64 y20), (7, .slice AR27 t25.length cR27), (8, .slice AR31 t29.length cR31), (42, .pointer (some ⟨bR3, 0, none⟩)), (43, .slice Al1 l1.length cl1), (44, .int .i64 y20)]) (by kernel_rfl) (by decide) ?_
              by_cases hb36 : 0 ≤ y20 ∧ y20 < (l1.length : Int)
              case neg => rw [if_neg hb36] at h; cases h
              rw [if_pos hb36] at h
              refine WL.tell (op := .indexAddr 22 (.tmp 43) (.tmp 44)) (ty := 0) (d := some 45) (g := none) (by kernel_rfl) (by kernel_rfl) (by kernel_rfl) (Tells.indexAddr (A := Al1) (n := l1.length) (c := cl1) (k := .i64) (j := y20) (by kernel_rfl) (by kernel_rfl) (Hl1.isSome hb36.1 hb36.2) hb36.1 hb36.2 sl22) ?_
              refine WL.tell (op := .fieldAddr 36 (.tmp 45) 3) (ty := 0) (d := some 46) (g := none) (by kernel_rfl) (by kernel_rfl) (by kernel_rfl) (Tells.fieldElem (m := y20.toNat * 9) (A := Al1) (by kernel_rfl) (Hl1.isSome hb36.1 hb36.2) fi36_3) ?_
              refine WL.tellE (op := .load 34 (.tmp 46)) (ty := 34) (d := some 47) (g := none) (by kernel_rfl) (by kernel_rfl) (by kernel_rfl) (Hl1.loadF (agg := true) (off := 3) hb36.1 hb36.2 z36 ag34 (fun h => by cases h) (by decide) (by kernel_rfl)) ?_
              rintro _ ⟨_, _, rfl, rfl, ⟨_, _, rfl, rfl, ⟨_, _, rfl, rfl, ⟨_, _, rfl, rfl, ⟨_, _, rfl, rfl, ⟨_, _, rfl, rfl, ⟨_, _, rfl, rfl, ⟨_, _, rfl, rfl, ⟨Ae37, ce37, rfl, He37⟩⟩⟩⟩⟩⟩⟩⟩⟩
              replace He37 : Rd (kInt .i64) G Ae37 ce37 ((l1.getD y20.toNat z36).f8) := He37
              refine WL.front (i := 4) rfl ?_
              refine WL.front (i := 4) rfl ?_
              refine WL.front (i := 4) rfl ?_
              refine WL.front (i := 4) rfl ?_
              rw [Option.bind_eq_some_iff] at h
              obtain ⟨t38, ht39, h⟩ := h
              refine WL.op (op := .call { callee := (.value (.func 13)), args := #[(.tmp 42), (.tmp 47)], argTypes := #[23, 34] }) (ty := 37) (d := some 48) (g := none) (by kernel_rfl) (by kernel_rfl) (by kernel_rfl) (Does.call (f := 13) (args := [.pointer (some ⟨bR3, 0, none⟩), .agg #[.int .i64 ((l1.getD y20.toNat z36).f3), .int .i64 ((l1.getD y20.toNat z36).f4), .int .i64 ((l1.getD y20.toNat z36).f5), .int .i64 ((l1.getD y20.toNat z36).f6), .string ((l1.getD y20.toNat z36).f7)]]) (by kernel_rfl) (fun W hI => (state_State_Accept_calls HT y21 (⟨(l1.getD y20.toNat z36).f3, (l1.getD y20.toNat z36).f4, (l1.getD y20.toNat z36).f5, (l1.getD y20.toNat z36).f6, (l1.getD y20.toNat z36).f7⟩ : T34) bR3 Ay21_f0 cy21_f0 Cy21_f0 Hy21_f0 Ay21_f1 cy21_f1 Cy21_f1 Hy21_f1 Ay21_f2 cy21_f2 Cy21_f2 Hy21_f2 t38 ht39 hI))) ?_
              rintro _ _ _ ⟨AR40p0_0, cR40p0_0, CR40p0_0, AR40p0_1, cR40p0_1, CR40p0_1, AR40p0_2, cR40p0_2, CR40p0_2, rfl, HR40p0_0, HR40p0_1, HR40p0_2, rfl, rfl⟩
              refine WL.rest 7 [1, 5, 6, 7, 8] (L' := [(1, .slice Al1 l1.length cl1), (5, .pointer (some ⟨bR3, 0, none⟩)), (6, .int .i64 y20), (7, .slice AR27 t25.length cR27), (8, .slice AR31 t29.length cR31)]) (by kernel_rfl) ?_
              refine QP.blockN ?_
              refine QP.next ?_
              refine WP.pick [1, 5, 6, 7, 8] ?_
              rw [Option.bind_eq_some_iff] at h
              obtain ⟨os42, h, hk43⟩ := h
              refine WP.cut (fun L' G' Γ' => ∃ s42 : Bool, s42 = os42 ∧ L' = [(1, .slice Al1 l1.length cl1), (5, .pointer (some ⟨bR3, 0, none⟩)), (6, .int .i64 y20), (79, .bool s42)] ∧ G = G' ∧ [(bR3, .cells #[.slice AR40p0_0 t38.2.f0.length cR40p0_0, .slice AR40p0_1 t38.2.f1.length cR40p0_1, mpv AR40p0_2] 63 (0, 0))] :: CR40p0_0 :: CR40p0_1 :: CR40p0_2 :: Γ = Γ') ?_ ?_
              · clear hk43
                refine WP.region ?_
                refine WL.pure 0 2 [1, 5, 6, 8, 63, 64] (L' := [(1, .slice Al1 l1.length cl1), (5, .pointer (some ⟨bR3, 0, none⟩)), (6, .int .i64 y20), (8, .slice AR31 t29.length cR31), (63, .slice AR27 t25.length cR27), (64, .pointer (some ⟨bR3, 0, none⟩))]) (by kernel_rfl) (by decide) ?_
                refine WL.front (i := 3) rfl ?_
                refine WL.front (i := 3) rfl ?_
                refine WL.front (i := 3) rfl ?_
                refine WL.front (i := 3) rfl ?_
                rw [Option.bind_eq_some_iff] at h
                obtain ⟨t44, ht45, h⟩ := h
                refine WL.op (op := .call { callee := (.value (.func 11)), args := #[(.tmp 64)], argTypes := #[23] }) (ty := 27) (d := some 65) (g := none) (by kernel_rfl) (by kernel_rfl) (by kernel_rfl) (Does.call (f := 11) (args := [.pointer (some ⟨bR3, 0, none⟩)]) (by kernel_rfl) (fun W hI => (state_State_V_calls t38.2 bR3 AR40p0_0 cR40p0_0 CR40p0_0 HR40p0_0 AR40p0_1 cR40p0_1 CR40p0_1 HR40p0_1 AR40p0_2 cR40p0_2 CR40p0_2 HR40p0_2 t44 ht45 hI))) ?_
                rintro _ _ _ ⟨AR46, cR46, CR46, rfl, HR46, rfl, rfl⟩
                rw [Option.bind_eq_some_iff] at h
                obtain ⟨t48, ht49, h⟩ := h
                refine WL.op (op := .call { callee := (.value (.func 16)), args := #[(.tmp 63), (.tmp 65)], argTypes := #[27, 27] }) (ty := 4) (d := some 66) (g := none) (by kernel_rfl) (by kernel_rfl) (by kernel_rfl) (Does.call (Φ := fun v' G' Γ' => v' = .bool t48 ∧ G = G' ∧ CR46 :: [(bR3, .cells #[.slice AR40p0_0 t38.2.f0.length cR40p0_0, .slice AR40p0_1 t38.2.f1.length cR40p0_1, mpv AR40p0_2] 63 (0, 0))] :: CR40p0_0 :: CR40p0_1 :: CR40p0_2 :: CR31 :: CR27 :: Γ = Γ') (f := 16) (args := [.slice AR27 t25.length cR27, .slice AR46 t44.length cR46]) (by kernel_rfl) (fun W hI => (Calls.lendN (Φ := fun v' N => v' = .bool t48 ∧ N = []) (H := []) (i := 6) rfl hI (fun _ e l52 nl52 hI => by subst e; exact Calls.lendN (Φ := fun v' N => v' = .bool t48 ∧ N = []) (H := []) (i := 0) rfl hI (fun _ e l53 nl53 hI => by subst e; exact (((grapevineref3_Below_calls kn23 t25 t44 AR27 cR27 ((HR27.rdN l52 nl52).mono l53) AR46 cR46 ((HR46.mono l52).rdN l53 nl53) t48 ht49 hI)).mono fun _ _ hr => by obtain ⟨_, _, _, rfl, hd, hI⟩ := hr; obtain ⟨rfl, rfl, rfl⟩ := hd; exact ⟨_, _, _, rfl, ⟨[], ⟨rfl, rfl⟩, rfl, rfl⟩, hI⟩)))).mono fun _ _ hr => by obtain ⟨_, _, _, rfl, ⟨_, hd, rfl, rfl⟩, hI⟩ := hr; obtain ⟨rfl, rfl⟩ := hd; exact ⟨_, _, _, rfl, ⟨rfl, rfl, rfl⟩, hI⟩)) ?_
                rintro _ _ _ ⟨rfl, rfl, rfl⟩
                refine WL.pure 4 6 [1, 5, 6, 8, 68] (L' := [(1, .slice Al1 l1.length cl1), (5, .pointer (some ⟨bR3, 0, none⟩)), (6, .int .i64 y20), (8, .slice AR31 t29.length cR31), (68, .bool (!t48))]) (by kernel_rfl) (by decide) ?_
                refine WL.split 68 (b := (!t48)) (by kernel_rfl) (fun hc => ?_) (fun hc => ?_)
                · replace hc := hc
                  rw [if_pos hc] at h
                  have hc54 := hc
                  clear hc
                  refine WL.rest 6 [1, 5, 6, 79] (L' := [(1, .slice Al1 l1.length cl1), (5, .pointer (some ⟨bR3, 0, none⟩)), (6, .int .i64 y20), (79, .bool true)]) (by kernel_rfl) ?_
                  refine QP.dropAt 6 ?_
                  refine QP.dropAt 5 ?_
                  refine QP.dropAt 0 ?_
                  refine QP.pick [1, 5, 6, 79] ?_
                  exact QP.meet ⟨_, Option.some.inj h, rfl, rfl, rfl⟩
                · replace hc := (Bool.eq_false_iff.1 hc)
                  rw [if_neg hc] at h
                  have hc54 := hc
                  clear hc
                  refine WL.pure 6 8 [1, 5, 6, 68, 69, 70] (L' := [(1, .slice Al1 l1.length cl1), (5, .pointer (some ⟨bR3, 0, none⟩)), (6, .int .i64 y20), (68, .bool false), (69, .slice AR31 t29.length cR31), (70, .pointer (some ⟨bR3, 0, none⟩))]) (by kernel_rfl) (by decide) ?_
                  refine WL.front (i := 4) rfl ?_
                  refine WL.front (i := 4) rfl ?_
                  refine WL.front (i := 4) rfl ?_
                  refine WL.front (i := 4) rfl ?_
                  rw [Option.bind_eq_some_iff] at h
                  obtain ⟨t55, ht56, h⟩ := h
                  refine WL.op (op := .call { callee := (.value (.func 12)), args := #[(.tmp 70)], argTypes := #[23] }) (ty := 27) (d := some 71) (g := some (5, false)) (by kernel_rfl) (by kernel_rfl) (by kernel_rfl) (Does.call (f := 12) (args := [.pointer (some ⟨bR3, 0, none⟩)]) (by kernel_rfl) (fun W hI => (state_State_W_calls t38.2 bR3 AR40p0_0 cR40p0_0 CR40p0_0 HR40p0_0 AR40p0_1 cR40p0_1 CR40p0_1 HR40p0_1 AR40p0_2 cR40p0_2 CR40p0_2 HR40p0_2 t55 ht56 hI))) ?_
                  rintro _ _ _ ⟨AR57, cR57, CR57, rfl, HR57, rfl, rfl⟩
                  rw [Option.bind_eq_some_iff] at h
                  obtain ⟨t59, ht60, h⟩ := h
                  refine WL.op (op := .call { callee := (.value (.func 16)), args := #[(.tmp 69), (.tmp 71)], argTypes := #[27, 27] }) (ty := 4) (d := some 72) (g := some (5, false)) (by kernel_rfl) (by kernel_rfl) (by kernel_rfl) (Does.call (Φ := fun v' G' Γ' => v' = .bool t59 ∧ G = G' ∧ CR57 :: [(bR3, .cells #[.slice AR40p0_0 t38.2.f0.length cR40p0_0, .slice AR40p0_1 t38.2.f1.length cR40p0_1, mpv AR40p0_2] 63 (0, 0))] :: CR40p0_0 :: CR40p0_1 :: CR40p0_2 :: CR46 :: CR31 :: CR27 :: Γ = Γ') (f := 16) (args := [.slice AR31 t29.length cR31, .slice AR57 t55.length cR57]) (by kernel_rfl) (fun W hI => (Calls.lendN (Φ := fun v' N => v' = .bool t59 ∧ N = []) (H := []) (i := 6) rfl hI (fun _ e l63 nl63 hI => by subst e; exact Calls.lendN (Φ := fun v' N => v' = .bool t59 ∧ N = []) (H := []) (i := 0) rfl hI (fun _ e l64 nl64 hI => by subst e; exact (((grapevineref3_Below_calls kn23 t29 t55 AR31 cR31 ((HR31.rdN l63 nl63).mono l64) AR57 cR57 ((HR57.mono l63).rdN l64 nl64) t59 ht60 hI)).mono fun _ _ hr => by obtain ⟨_, _, _, rfl, hd, hI⟩ := hr; obtain ⟨rfl, rfl, rfl⟩ := hd; exact ⟨_, _, _, rfl, ⟨[], ⟨rfl, rfl⟩, rfl, rfl⟩, hI⟩)))).mono fun _ _ hr => by obtain ⟨_, _, _, rfl, ⟨_, hd, rfl, rfl⟩, hI⟩ := hr; obtain ⟨rfl, rfl⟩ := hd; exact ⟨_, _, _, rfl, ⟨rfl, rfl, rfl⟩, hI⟩)) ?_
                  rintro _ _ _ ⟨rfl, rfl, rfl⟩
                  refine WL.pure 10 13 [1, 5, 6, 75] (L' := [(1, .slice Al1 l1.length cl1), (5, .pointer (some ⟨bR3, 0, none⟩)), (6, .int .i64 y20), (75, .bool (!t59))]) (by kernel_rfl) (by decide) ?_
                  refine WL.split 75 (b := (!t59)) (by kernel_rfl) (fun hc => ?_) (fun hc => ?_)
                  · replace hc := hc
                    rw [if_pos hc] at h
                    have hc65 := hc
                    clear hc
                    refine WL.rest 13 [1, 5, 6, 79] (L' := [(1, .slice Al1 l1.length cl1), (5, .pointer (some ⟨bR3, 0, none⟩)), (6, .int .i64 y20), (79, .bool true)]) (by kernel_rfl) ?_
                    refine QP.dropAt 7 ?_
                    refine QP.dropAt 6 ?_
                    refine QP.dropAt 5 ?_
                    refine QP.dropAt 0 ?_
                    refine QP.pick [1, 5, 6, 79] ?_
                    exact QP.meet ⟨_, Option.some.inj h, rfl, rfl, rfl⟩
                  · replace hc := (Bool.eq_false_iff.1 hc)
                    rw [if_neg hc] at h
                    have hc65 := hc
                    clear hc
                    refine WL.pure 13 14 [1, 5, 6, 75, 76] (L' := [(1, .slice Al1 l1.length cl1), (5, .pointer (some ⟨bR3, 0, none⟩)), (6, .int .i64 y20), (75, .bool false), (76, .pointer (some ⟨bR3, 0, none⟩))]) (by kernel_rfl) (by decide) ?_
                    refine WL.front (i := 4) rfl ?_
                    refine WL.front (i := 4) rfl ?_
                    refine WL.front (i := 4) rfl ?_
                    refine WL.front (i := 4) rfl ?_
                    rw [Option.bind_eq_some_iff] at h
                    obtain ⟨t66, ht67, h⟩ := h
                    refine WL.op (op := .call { callee := (.value (.func 17)), args := #[(.tmp 76)], argTypes := #[23] }) (ty := 4) (d := some 77) (g := some (12, false)) (by kernel_rfl) (by kernel_rfl) (by kernel_rfl) (Does.call (f := 17) (args := [.pointer (some ⟨bR3, 0, none⟩)]) (by kernel_rfl) (fun W hI => (grapevinelaw19_whole_calls kn23 t38.2 bR3 AR40p0_0 cR40p0_0 CR40p0_0 HR40p0_0 AR40p0_1 cR40p0_1 CR40p0_1 HR40p0_1 AR40p0_2 cR40p0_2 CR40p0_2 HR40p0_2 t66 ht67 hI))) ?_
                    rintro _ _ _ ⟨rfl, rfl, rfl⟩
                    refine WL.rest 15 [1, 5, 6, 79] (L' := [(1, .slice Al1 l1.length cl1), (5, .pointer (some ⟨bR3, 0, none⟩)), (6, .int .i64 y20), (79, .bool (!t66))]) (by kernel_rfl) ?_
                    refine QP.dropAt 7 ?_
                    refine QP.dropAt 6 ?_
                    refine QP.dropAt 5 ?_
                    refine QP.dropAt 4 ?_
                    refine QP.pick [1, 5, 6, 79] ?_
                    exact QP.meet ⟨_, Option.some.inj h, rfl, rfl, rfl⟩
              · rintro _ _ _ ⟨s42, rfl, rfl, rfl, rfl⟩
                clear h
                replace h := hk43
                refine WP.cond (b := s42) (by kernel_rfl) (fun hc => ?_) (fun hc => ?_)
                · replace hc := hc
                  rw [if_pos hc] at h
                  have hc70 := hc
                  clear hc
                  refine WP.seqP [4] (L' := [(4, .bool false)]) (by kernel_rfl) ?_
                  refine WP.dropAt 3 ?_
                  refine WP.dropAt 2 ?_
                  refine WP.dropAt 1 ?_
                  refine WP.dropAt 0 ?_
                  refine WP.ret ?_
                  refine QP.blockR ?_
                  refine QP.thenR ?_
                  refine QP.thenR ?_
                  refine QP.blockR ?_
                  refine QP.thenR ?_
                  refine QP.thenR ?_
                  obtain rfl := Option.some.inj h
                  obtain rfl := Option.some.inj (show some _ = some _ from hk19)
                  exact QP.returned [4] [.bool false] _ (by kernel_rfl) (by kernel_rfl) (by kernel_rfl) (fun W hI => ⟨_, _, _, rfl, ⟨rfl, rfl, rfl⟩, hI⟩)
                · replace hc := (Bool.eq_false_iff.1 hc)
                  rw [if_neg hc] at h
                  have hc70 := hc
                  clear hc
                  refine WP.skip ?_
                  refine QP.blockN ?_
                  refine QP.next ?_
                  refine WP.pick [1, 5, 6] ?_
                  refine WP.regionP [1, 5, 6] (L' := [(1, .slice Al1 l1.length cl1), (5, .pointer (some ⟨bR3, 0, none⟩)), (6, .int .i64 (IntKind.i64.wrap (y20 + 1)))]) (by kernel_rfl) ?_
                  refine QP.front (i := 3) rfl ?_
                  refine QP.front (i := 3) rfl ?_
                  refine QP.front (i := 3) rfl ?_
                  refine QP.front (i := 3) rfl ?_
                  refine QP.pick [1, 5, 6] ?_
                  exact QP.meet ⟨kn23, Nat.lt_succ_self _, (IntKind.i64.wrap (y20 + 1)), t38.2, h, AR40p0_0, cR40p0_0, CR40p0_0, AR40p0_1, cR40p0_1, CR40p0_1, AR40p0_2, cR40p0_2, CR40p0_2, rfl, rfl, rfl, HR40p0_0, HR40p0_1, HR40p0_2⟩
            · replace hc := ne_of_beq_false hc
              rw [if_neg hc] at h
              have hc35 := hc
              clear hc
              refine WP.seqP [1, 5, 6, 7, 8, 49] (L' := [(1, .slice Al1 l1.length cl1), (5, .pointer (some ⟨bR3, 0, none⟩)), (6, .int .i64 y20), (7, .slice AR27 t25.length cR27), (8, .slice AR31 t29.length cR31), (49, .bool (((l1.getD y20.toNat z36).f0) == 1))]) (by kernel_rfl) ?_
              refine WP.cond (b := (((l1.getD y20.toNat z36).f0) == 1)) (by kernel_rfl) (fun hc => ?_) (fun hc => ?_)
              · replace hc := eq_of_beq hc
                rw [if_pos hc] at h
                have hc71 := hc
                clear hc
                skip
                refine WP.any (N := 12) (S := [⟨some 51, [5], []⟩, ⟨some 52, [1], []⟩, ⟨some 53, [6], []⟩, ⟨some 54, [52, 53], [1, 2]⟩, ⟨some 55, [54], [3]⟩, ⟨some 56, [55], [4]⟩, ⟨some 57, [1], []⟩, ⟨some 58, [6], []⟩, ⟨some 59, [57, 58], [6, 7]⟩, ⟨some 60, [59], [8]⟩, ⟨some 61, [60], [9]⟩, ⟨some 62, [51, 56, 61], [0, 5, 10]⟩]) (kw := 11) (G0 := G) (Γ0 := CR31 :: [(bR3, .cells #[.slice Ay21_f0 y21.f0.length cy21_f0, .slice Ay21_f1 y21.f1.length cy21_f1, mpv Ay21_f2] 63 (0, 0))] :: Cy21_f0 :: Cy21_f1 :: Cy21_f2 :: CR27 :: Γ) mo (by kernel_rfl) (fun hS => ?_)
                refine WA.pure [0, 1, 2, 6, 7] [1, 5, 6, 7, 8, 51, 52, 53, 57, 58] (m := 7) (b' := 199) (L' := [(1, .slice Al1 l1.length cl1), (5, .pointer (some ⟨bR3, 0, none⟩)), (6, .int .i64 y20), (7, .slice AR27 t25.length cR27), (8, .slice AR31 t29.length cR31), (51, .pointer (some ⟨bR3, 0, none⟩)), (52, .slice Al1 l1.length cl1), (53, .int .i64 y20), (57, .slice Al1 l1.length cl1), (58, .int .i64 y20)]) (by kernel_rfl) (NoPanic.block (NoPanic.then (NoPanic.block (NoPanic.then (NoPanic.then (NoPanic.block (NoPanic.then (NoPanic.then (NoPanic.body))))))))) Under.refl hS (by kernel_rfl) ?_
                by_cases hb72 : 0 ≤ y20 ∧ y20 < (l1.length : Int)
                case neg => rw [if_neg hb72] at h; cases h
                rw [if_pos hb72] at h
                refine WA.tellD [11, 5, 4] (i := 3) (m := 6) (b' := 207) (by kernel_rfl) (NoPanic.block (NoPanic.then (NoPanic.block (NoPanic.then (NoPanic.then (NoPanic.block (NoPanic.then (NoPanic.then (NoPanic.body))))))))) Under.refl hS (by kernel_rfl) (op := .indexAddr 22 (.tmp 52) (.tmp 53)) (ty := 0) (d := some 54) (g := none) (by kernel_rfl) (by kernel_rfl) (by kernel_rfl) (Tells.indexAddr (A := Al1) (n := l1.length) (c := cl1) (k := .i64) (j := y20) (by kernel_rfl) (by kernel_rfl) (Hl1.isSome hb72.1 hb72.2) hb72.1 hb72.2 sl22) ?_
                refine WA.tellD [11, 5] (i := 4) (m := 5) (b' := 223) (by kernel_rfl) (NoPanic.block (NoPanic.then (NoPanic.block (NoPanic.then (NoPanic.then (NoPanic.block (NoPanic.then (NoPanic.then (NoPanic.body))))))))) Under.refl hS (by kernel_rfl) (op := .fieldAddr 36 (.tmp 54) 1) (ty := 0) (d := some 55) (g := none) (by kernel_rfl) (by kernel_rfl) (by kernel_rfl) (Tells.fieldElem (m := y20.toNat * 9) (A := Al1) (by kernel_rfl) (Hl1.isSome hb72.1 hb72.2) fi36_1) ?_
                refine WA.tellDE [11] (i := 5) (m := 4) (b' := 255) (by kernel_rfl) (NoPanic.block (NoPanic.then (NoPanic.block (NoPanic.then (NoPanic.then (NoPanic.block (NoPanic.then (NoPanic.then (NoPanic.body))))))))) Under.refl hS (by kernel_rfl) (op := .load 3 (.tmp 55)) (ty := 3) (d := some 56) (g := none) (by kernel_rfl) (by kernel_rfl) (by kernel_rfl) (Hl1.loadF (agg := false) (off := 1) hb72.1 hb72.2 z36 ag3 (fun _ => rfl) (by decide) (by kernel_rfl)) ?_
                rintro _ ⟨_, _, rfl, rfl, ⟨_, _, rfl, rfl, ⟨_, _, rfl, rfl, ⟨_, _, rfl, rfl, ⟨_, _, rfl, rfl, ⟨_, _, rfl, rfl, ⟨_, _, rfl, rfl, ⟨_, _, rfl, rfl, ⟨Ae73, ce73, rfl, He73⟩⟩⟩⟩⟩⟩⟩⟩⟩
                replace He73 : Rd (kInt .i64) G Ae73 ce73 ((l1.getD y20.toNat z36).f8) := He73
                by_cases hb74 : 0 ≤ y20 ∧ y20 < (l1.length : Int)
                case neg => rw [if_neg hb74] at h; cases h
                rw [if_pos hb74] at h
                refine WA.tellD [11, 10, 9] (i := 8) (m := 3) (b' := 511) (by kernel_rfl) (NoPanic.block (NoPanic.then (NoPanic.block (NoPanic.then (NoPanic.then (NoPanic.block (NoPanic.then (NoPanic.then (NoPanic.body))))))))) Under.refl hS (by kernel_rfl) (op := .indexAddr 22 (.tmp 57) (.tmp 58)) (ty := 0) (d := some 59) (g := none) (by kernel_rfl) (by kernel_rfl) (by kernel_rfl) (Tells.indexAddr (A := Al1) (n := l1.length) (c := cl1) (k := .i64) (j := y20) (by kernel_rfl) (by kernel_rfl) (Hl1.isSome hb74.1 hb74.2) hb74.1 hb74.2 sl22) ?_
                refine WA.tellD [11, 10] (i := 9) (m := 2) (b' := 1023) (by kernel_rfl) (NoPanic.block (NoPanic.then (NoPanic.block (NoPanic.then (NoPanic.then (NoPanic.block (NoPanic.then (NoPanic.then (NoPanic.body))))))))) Under.refl hS (by kernel_rfl) (op := .fieldAddr 36 (.tmp 59) 2) (ty := 0) (d := some 60) (g := none) (by kernel_rfl) (by kernel_rfl) (by kernel_rfl) (Tells.fieldElem (m := y20.toNat * 9) (A := Al1) (by kernel_rfl) (Hl1.isSome hb74.1 hb74.2) fi36_2) ?_
                refine WA.tellDE [11] (i := 10) (m := 1) (b' := 2047) (by kernel_rfl) (NoPanic.block (NoPanic.then (NoPanic.block (NoPanic.then (NoPanic.then (NoPanic.block (NoPanic.then (NoPanic.then (NoPanic.body))))))))) Under.refl hS (by kernel_rfl) (op := .load 3 (.tmp 60)) (ty := 3) (d := some 61) (g := none) (by kernel_rfl) (by kernel_rfl) (by kernel_rfl) (Hl1.loadF (agg := false) (off := 2) hb74.1 hb74.2 z36 ag3 (fun _ => rfl) (by decide) (by kernel_rfl)) ?_
                rintro _ ⟨_, _, rfl, rfl, ⟨_, _, rfl, rfl, ⟨_, _, rfl, rfl, ⟨_, _, rfl, rfl, ⟨_, _, rfl, rfl, ⟨_, _, rfl, rfl, ⟨_, _, rfl, rfl, ⟨_, _, rfl, rfl, ⟨Ae75, ce75, rfl, He75⟩⟩⟩⟩⟩⟩⟩⟩⟩
                replace He75 : Rd (kInt .i64) G Ae75 ce75 ((l1.getD y20.toNat z36).f8) := He75
                refine WA.front (i := 4) rfl ?_
                refine WA.front (i := 4) rfl ?_
                refine WA.front (i := 4) rfl ?_
                refine WA.front (i := 4) rfl ?_
                rw [Option.bind_eq_some_iff] at h
                obtain ⟨t76, ht77, h⟩ := h
                refine WA.opK (i := 11) (kw' := 12) (m := 0) (b' := 4095) (by kernel_rfl) rfl hS (by kernel_rfl) (op := .call { callee := (.value (.func 14)), args := #[(.tmp 51), (.tmp 56), (.tmp 61)], argTypes := #[23, 3, 3] }) (ty := 37) (d := some 62) (g := none) (by kernel_rfl) (by kernel_rfl) (by kernel_rfl) (Does.call (f := 14) (args := [.pointer (some ⟨bR3, 0, none⟩), .int .i64 ((l1.getD y20.toNat z36).f1), .int .i64 ((l1.getD y20.toNat z36).f2)]) (by kernel_rfl) (fun W hI => (state_State_Retire_calls kn23 y21 ((l1.getD y20.toNat z36).f1) ((l1.getD y20.toNat z36).f2) bR3 Ay21_f0 cy21_f0 Cy21_f0 Hy21_f0 Ay21_f1 cy21_f1 Cy21_f1 Hy21_f1 Ay21_f2 cy21_f2 Cy21_f2 Hy21_f2 t76 ht77 hI))) ?_
                rintro _ _ _ ⟨AR78p0_0, cR78p0_0, CR78p0_0, AR78p0_1, cR78p0_1, CR78p0_1, AR78p0_2, cR78p0_2, CR78p0_2, rfl, HR78p0_0, HR78p0_1, HR78p0_2, rfl, rfl⟩
                refine ⟨_, _, Under.refl, ?_⟩
                refine WA.done hS (by kernel_rfl) ?_
                refine QP.pick [1, 5, 6, 7, 8] ?_
                refine QP.blockN ?_
                refine QP.next ?_
                refine WP.pick [1, 5, 6, 7, 8] ?_
                rw [Option.bind_eq_some_iff] at h
                obtain ⟨os80, h, hk81⟩ := h
                refine WP.cut (fun L' G' Γ' => ∃ s80 : Bool, s80 = os80 ∧ L' = [(1, .slice Al1 l1.length cl1), (5, .pointer (some ⟨bR3, 0, none⟩)), (6, .int .i64 y20), (79, .bool s80)] ∧ G = G' ∧ [(bR3, .cells #[.slice AR78p0_0 t76.2.f0.length cR78p0_0, .slice AR78p0_1 t76.2.f1.length cR78p0_1, mpv AR78p0_2] 63 (0, 0))] :: CR78p0_0 :: CR78p0_1 :: CR78p0_2 :: Γ = Γ') ?_ ?_
                · clear hk81
                  refine WP.region ?_
                  refine WL.pure 0 2 [1, 5, 6, 8, 63, 64] (L' := [(1, .slice Al1 l1.length cl1), (5, .pointer (some ⟨bR3, 0, none⟩)), (6, .int .i64 y20), (8, .slice AR31 t29.length cR31), (63, .slice AR27 t25.length cR27), (64, .pointer (some ⟨bR3, 0, none⟩))]) (by kernel_rfl) (by decide) ?_
                  refine WL.front (i := 3) rfl ?_
                  refine WL.front (i := 3) rfl ?_
                  refine WL.front (i := 3) rfl ?_
                  refine WL.front (i := 3) rfl ?_
                  rw [Option.bind_eq_some_iff] at h
                  obtain ⟨t82, ht83, h⟩ := h
                  refine WL.op (op := .call { callee := (.value (.func 11)), args := #[(.tmp 64)], argTypes := #[23] }) (ty := 27) (d := some 65) (g := none) (by kernel_rfl) (by kernel_rfl) (by kernel_rfl) (Does.call (f := 11) (args := [.pointer (some ⟨bR3, 0, none⟩)]) (by kernel_rfl) (fun W hI => (state_State_V_calls t76.2 bR3 AR78p0_0 cR78p0_0 CR78p0_0 HR78p0_0 AR78p0_1 cR78p0_1 CR78p0_1 HR78p0_1 AR78p0_2 cR78p0_2 CR78p0_2 HR78p0_2 t82 ht83 hI))) ?_
                  rintro _ _ _ ⟨AR84, cR84, CR84, rfl, HR84, rfl, rfl⟩
                  rw [Option.bind_eq_some_iff] at h
                  obtain ⟨t86, ht87, h⟩ := h
                  refine WL.op (op := .call { callee := (.value (.func 16)), args := #[(.tmp 63), (.tmp 65)], argTypes := #[27, 27] }) (ty := 4) (d := some 66) (g := none) (by kernel_rfl) (by kernel_rfl) (by kernel_rfl) (Does.call (Φ := fun v' G' Γ' => v' = .bool t86 ∧ G = G' ∧ CR84 :: [(bR3, .cells #[.slice AR78p0_0 t76.2.f0.length cR78p0_0, .slice AR78p0_1 t76.2.f1.length cR78p0_1, mpv AR78p0_2] 63 (0, 0))] :: CR78p0_0 :: CR78p0_1 :: CR78p0_2 :: CR31 :: CR27 :: Γ = Γ') (f := 16) (args := [.slice AR27 t25.length cR27, .slice AR84 t82.length cR84]) (by kernel_rfl) (fun W hI => (Calls.lendN (Φ := fun v' N => v' = .bool t86 ∧ N = []) (H := []) (i := 6) rfl hI (fun _ e l90 nl90 hI => by subst e; exact Calls.lendN (Φ := fun v' N => v' = .bool t86 ∧ N = []) (H := []) (i := 0) rfl hI (fun _ e l91 nl91 hI => by subst e; exact (((grapevineref3_Below_calls kn23 t25 t82 AR27 cR27 ((HR27.rdN l90 nl90).mono l91) AR84 cR84 ((HR84.mono l90).rdN l91 nl91) t86 ht87 hI)).mono fun _ _ hr => by obtain ⟨_, _, _, rfl, hd, hI⟩ := hr; obtain ⟨rfl, rfl, rfl⟩ := hd; exact ⟨_, _, _, rfl, ⟨[], ⟨rfl, rfl⟩, rfl, rfl⟩, hI⟩)))).mono fun _ _ hr => by obtain ⟨_, _, _, rfl, ⟨_, hd, rfl, rfl⟩, hI⟩ := hr; obtain ⟨rfl, rfl⟩ := hd; exact ⟨_, _, _, rfl, ⟨rfl, rfl, rfl⟩, hI⟩)) ?_
                  rintro _ _ _ ⟨rfl, rfl, rfl⟩
                  refine WL.pure 4 6 [1, 5, 6, 8, 68] (L' := [(1, .slice Al1 l1.length cl1), (5, .pointer (some ⟨bR3, 0, none⟩)), (6, .int .i64 y20), (8, .slice AR31 t29.length cR31), (68, .bool (!t86))]) (by kernel_rfl) (by decide) ?_
                  refine WL.split 68 (b := (!t86)) (by kernel_rfl) (fun hc => ?_) (fun hc => ?_)
                  · replace hc := hc
                    rw [if_pos hc] at h
                    have hc92 := hc
                    clear hc
                    refine WL.rest 6 [1, 5, 6, 79] (L' := [(1, .slice Al1 l1.length cl1), (5, .pointer (some ⟨bR3, 0, none⟩)), (6, .int .i64 y20), (79, .bool true)]) (by kernel_rfl) ?_
                    refine QP.dropAt 6 ?_
                    refine QP.dropAt 5 ?_
                    refine QP.dropAt 0 ?_
                    refine QP.pick [1, 5, 6, 79] ?_
                    exact QP.meet ⟨_, Option.some.inj h, rfl, rfl, rfl⟩
                  · replace hc := (Bool.eq_false_iff.1 hc)
                    rw [if_neg hc] at h
                    have hc92 := hc
                    clear hc
                    refine WL.pure 6 8 [1, 5, 6, 68, 69, 70] (L' := [(1, .slice Al1 l1.length cl1), (5, .pointer (some ⟨bR3, 0, none⟩)), (6, .int .i64 y20), (68, .bool false), (69, .slice AR31 t29.length cR31), (70, .pointer (some ⟨bR3, 0, none⟩))]) (by kernel_rfl) (by decide) ?_
                    refine WL.front (i := 4) rfl ?_
                    refine WL.front (i := 4) rfl ?_
                    refine WL.front (i := 4) rfl ?_
                    refine WL.front (i := 4) rfl ?_
                    rw [Option.bind_eq_some_iff] at h
                    obtain ⟨t93, ht94, h⟩ := h
                    refine WL.op (op := .call { callee := (.value (.func 12)), args := #[(.tmp 70)], argTypes := #[23] }) (ty := 27) (d := some 71) (g := some (5, false)) (by kernel_rfl) (by kernel_rfl) (by kernel_rfl) (Does.call (f := 12) (args := [.pointer (some ⟨bR3, 0, none⟩)]) (by kernel_rfl) (fun W hI => (state_State_W_calls t76.2 bR3 AR78p0_0 cR78p0_0 CR78p0_0 HR78p0_0 AR78p0_1 cR78p0_1 CR78p0_1 HR78p0_1 AR78p0_2 cR78p0_2 CR78p0_2 HR78p0_2 t93 ht94 hI))) ?_
                    rintro _ _ _ ⟨AR95, cR95, CR95, rfl, HR95, rfl, rfl⟩
                    rw [Option.bind_eq_some_iff] at h
                    obtain ⟨t97, ht98, h⟩ := h
                    refine WL.op (op := .call { callee := (.value (.func 16)), args := #[(.tmp 69), (.tmp 71)], argTypes := #[27, 27] }) (ty := 4) (d := some 72) (g := some (5, false)) (by kernel_rfl) (by kernel_rfl) (by kernel_rfl) (Does.call (Φ := fun v' G' Γ' => v' = .bool t97 ∧ G = G' ∧ CR95 :: [(bR3, .cells #[.slice AR78p0_0 t76.2.f0.length cR78p0_0, .slice AR78p0_1 t76.2.f1.length cR78p0_1, mpv AR78p0_2] 63 (0, 0))] :: CR78p0_0 :: CR78p0_1 :: CR78p0_2 :: CR84 :: CR31 :: CR27 :: Γ = Γ') (f := 16) (args := [.slice AR31 t29.length cR31, .slice AR95 t93.length cR95]) (by kernel_rfl) (fun W hI => (Calls.lendN (Φ := fun v' N => v' = .bool t97 ∧ N = []) (H := []) (i := 6) rfl hI (fun _ e l101 nl101 hI => by subst e; exact Calls.lendN (Φ := fun v' N => v' = .bool t97 ∧ N = []) (H := []) (i := 0) rfl hI (fun _ e l102 nl102 hI => by subst e; exact (((grapevineref3_Below_calls kn23 t29 t93 AR31 cR31 ((HR31.rdN l101 nl101).mono l102) AR95 cR95 ((HR95.mono l101).rdN l102 nl102) t97 ht98 hI)).mono fun _ _ hr => by obtain ⟨_, _, _, rfl, hd, hI⟩ := hr; obtain ⟨rfl, rfl, rfl⟩ := hd; exact ⟨_, _, _, rfl, ⟨[], ⟨rfl, rfl⟩, rfl, rfl⟩, hI⟩)))).mono fun _ _ hr => by obtain ⟨_, _, _, rfl, ⟨_, hd, rfl, rfl⟩, hI⟩ := hr; obtain ⟨rfl, rfl⟩ := hd; exact ⟨_, _, _, rfl, ⟨rfl, rfl, rfl⟩, hI⟩)) ?_
                    rintro _ _ _ ⟨rfl, rfl, rfl⟩
                    refine WL.pure 10 13 [1, 5, 6, 75] (L' := [(1, .slice Al1 l1.length cl1), (5, .pointer (some ⟨bR3, 0, none⟩)), (6, .int .i64 y20), (75, .bool (!t97))]) (by kernel_rfl) (by decide) ?_
                    refine WL.split 75 (b := (!t97)) (by kernel_rfl) (fun hc => ?_) (fun hc => ?_)
                    · replace hc := hc
                      rw [if_pos hc] at h
                      have hc103 := hc
                      clear hc
                      refine WL.rest 13 [1, 5, 6, 79] (L' := [(1, .slice Al1 l1.length cl1), (5, .pointer (some ⟨bR3, 0, none⟩)), (6, .int .i64 y20), (79, .bool true)]) (by kernel_rfl) ?_
                      refine QP.dropAt 7 ?_
                      refine QP.dropAt 6 ?_
                      refine QP.dropAt 5 ?_
                      refine QP.dropAt 0 ?_
                      refine QP.pick [1, 5, 6, 79] ?_
                      exact QP.meet ⟨_, Option.some.inj h, rfl, rfl, rfl⟩
                    · replace hc := (Bool.eq_false_iff.1 hc)
                      rw [if_neg hc] at h
                      have hc103 := hc
                      clear hc
                      refine WL.pure 13 14 [1, 5, 6, 75, 76] (L' := [(1, .slice Al1 l1.length cl1), (5, .pointer (some ⟨bR3, 0, none⟩)), (6, .int .i64 y20), (75, .bool false), (76, .pointer (some ⟨bR3, 0, none⟩))]) (by kernel_rfl) (by decide) ?_
                      refine WL.front (i := 4) rfl ?_
                      refine WL.front (i := 4) rfl ?_
                      refine WL.front (i := 4) rfl ?_
                      refine WL.front (i := 4) rfl ?_
                      rw [Option.bind_eq_some_iff] at h
                      obtain ⟨t104, ht105, h⟩ := h
                      refine WL.op (op := .call { callee := (.value (.func 17)), args := #[(.tmp 76)], argTypes := #[23] }) (ty := 4) (d := some 77) (g := some (12, false)) (by kernel_rfl) (by kernel_rfl) (by kernel_rfl) (Does.call (f := 17) (args := [.pointer (some ⟨bR3, 0, none⟩)]) (by kernel_rfl) (fun W hI => (grapevinelaw19_whole_calls kn23 t76.2 bR3 AR78p0_0 cR78p0_0 CR78p0_0 HR78p0_0 AR78p0_1 cR78p0_1 CR78p0_1 HR78p0_1 AR78p0_2 cR78p0_2 CR78p0_2 HR78p0_2 t104 ht105 hI))) ?_
                      rintro _ _ _ ⟨rfl, rfl, rfl⟩
                      refine WL.rest 15 [1, 5, 6, 79] (L' := [(1, .slice Al1 l1.length cl1), (5, .pointer (some ⟨bR3, 0, none⟩)), (6, .int .i64 y20), (79, .bool (!t104))]) (by kernel_rfl) ?_
                      refine QP.dropAt 7 ?_
                      refine QP.dropAt 6 ?_
                      refine QP.dropAt 5 ?_
                      refine QP.dropAt 4 ?_
                      refine QP.pick [1, 5, 6, 79] ?_
                      exact QP.meet ⟨_, Option.some.inj h, rfl, rfl, rfl⟩
                · rintro _ _ _ ⟨s80, rfl, rfl, rfl, rfl⟩
                  clear h
                  replace h := hk81
                  refine WP.cond (b := s80) (by kernel_rfl) (fun hc => ?_) (fun hc => ?_)
                  · replace hc := hc
                    rw [if_pos hc] at h
                    have hc108 := hc
                    clear hc
                    refine WP.seqP [4] (L' := [(4, .bool false)]) (by kernel_rfl) ?_
                    refine WP.dropAt 3 ?_
                    refine WP.dropAt 2 ?_
                    refine WP.dropAt 1 ?_
                    refine WP.dropAt 0 ?_
                    refine WP.ret ?_
                    refine QP.blockR ?_
                    refine QP.thenR ?_
                    refine QP.thenR ?_
                    refine QP.blockR ?_
                    refine QP.thenR ?_
                    refine QP.thenR ?_
                    obtain rfl := Option.some.inj h
                    obtain rfl := Option.some.inj (show some _ = some _ from hk19)
                    exact QP.returned [4] [.bool false] _ (by kernel_rfl) (by kernel_rfl) (by kernel_rfl) (fun W hI => ⟨_, _, _, rfl, ⟨rfl, rfl, rfl⟩, hI⟩)
                  · replace hc := (Bool.eq_false_iff.1 hc)
                    rw [if_neg hc] at h
                    have hc108 := hc
                    clear hc
                    refine WP.skip ?_
                    refine QP.blockN ?_
                    refine QP.next ?_
                    refine WP.pick [1, 5, 6] ?_
                    refine WP.regionP [1, 5, 6] (L' := [(1, .slice Al1 l1.length cl1), (5, .pointer (some ⟨bR3, 0, none⟩)), (6, .int .i64 (IntKind.i64.wrap (y20 + 1)))]) (by kernel_rfl) ?_
                    refine QP.front (i := 3) rfl ?_
                    refine QP.front (i := 3) rfl ?_
                    refine QP.front (i := 3) rfl ?_
                    refine QP.front (i := 3) rfl ?_
                    refine QP.pick [1, 5, 6] ?_
                    exact QP.meet ⟨kn23, Nat.lt_succ_self _, (IntKind.i64.wrap (y20 + 1)), t76.2, h, AR78p0_0, cR78p0_0, CR78p0_0, AR78p0_1, cR78p0_1, CR78p0_1, AR78p0_2, cR78p0_2, CR78p0_2, rfl, rfl, rfl, HR78p0_0, HR78p0_1, HR78p0_2⟩
              · replace hc := ne_of_beq_false hc
                rw [if_neg hc] at h
                have hc71 := hc
                clear hc
                refine WP.region ?_
                refine WL.pure 0 3 [1, 5, 6, 7, 8, 33, 34, 35] (L' := [(1, .slice Al1 l1.length cl1), (5, .pointer (some ⟨bR3, 0, none⟩)), (6, .int .i64 y20), (7, .slice AR27 t25.length cR27), (8, .slice AR31 t29.length cR31), (33, .pointer (some ⟨bR3, 0, none⟩)), (34, .slice Al1 l1.length cl1), (35, .int .i64 y20)]) (by kernel_rfl) (by decide) ?_
                by_cases hb109 : 0 ≤ y20 ∧ y20 < (l1.length : Int)
                case neg => rw [if_neg hb109] at h; cases h
                rw [if_pos hb109] at h
                refine WL.tell (op := .indexAddr 22 (.tmp 34) (.tmp 35)) (ty := 0) (d := some 36) (g := none) (by kernel_rfl) (by kernel_rfl) (by kernel_rfl) (Tells.indexAddr (A := Al1) (n := l1.length) (c := cl1) (k := .i64) (j := y20) (by kernel_rfl) (by kernel_rfl) (Hl1.isSome hb109.1 hb109.2) hb109.1 hb109.2 sl22) ?_
                refine WL.tell (op := .fieldAddr 36 (.tmp 36) 4) (ty := 0) (d := some 37) (g := none) (by kernel_rfl) (by kernel_rfl) (by kernel_rfl) (Tells.fieldElem (m := y20.toNat * 9) (A := Al1) (by kernel_rfl) (Hl1.isSome hb109.1 hb109.2) fi36_4) ?_
                refine WL.tellE (op := .load 27 (.tmp 37)) (ty := 27) (d := some 38) (g := none) (by kernel_rfl) (by kernel_rfl) (by kernel_rfl) (Hl1.loadF (agg := false) (off := 8) hb109.1 hb109.2 z36 ag27 (fun _ => rfl) (by decide) (by kernel_rfl)) ?_
                rintro _ ⟨_, _, rfl, rfl, ⟨_, _, rfl, rfl, ⟨_, _, rfl, rfl, ⟨_, _, rfl, rfl, ⟨_, _, rfl, rfl, ⟨_, _, rfl, rfl, ⟨_, _, rfl, rfl, ⟨_, _, rfl, rfl, ⟨Ae110, ce110, rfl, He110⟩⟩⟩⟩⟩⟩⟩⟩⟩
                replace He110 : Rd (kInt .i64) G Ae110 ce110 ((l1.getD y20.toNat z36).f8) := He110
                refine WL.front (i := 4) rfl ?_
                refine WL.front (i := 4) rfl ?_
                refine WL.front (i := 4) rfl ?_
                refine WL.front (i := 4) rfl ?_
                rw [Option.bind_eq_some_iff] at h
                obtain ⟨t111, ht112, h⟩ := h
                refine WL.op (op := .call { callee := (.value (.func 15)), args := #[(.tmp 33), (.tmp 38)], argTypes := #[23, 27] }) (ty := 3) (d := some 39) (g := none) (by kernel_rfl) (by kernel_rfl) (by kernel_rfl) (Does.call (f := 15) (args := [.pointer (some ⟨bR3, 0, none⟩), .slice Ae110 ((l1.getD y20.toNat z36).f8).length ce110]) (by kernel_rfl) (fun W hI => (state_State_Raise_calls kn23 y21 ((l1.getD y20.toNat z36).f8) bR3 Ay21_f0 cy21_f0 Cy21_f0 Hy21_f0 Ay21_f1 cy21_f1 Cy21_f1 Hy21_f1 Ay21_f2 cy21_f2 Cy21_f2 Hy21_f2 Ae110 ce110 He110 t111 ht112 hI))) ?_
                rintro _ _ _ ⟨AR113p0_0, cR113p0_0, CR113p0_0, AR113p0_1, cR113p0_1, CR113p0_1, AR113p0_2, cR113p0_2, CR113p0_2, rfl, HR113p0_0, HR113p0_1, HR113p0_2, rfl, rfl⟩
                refine WL.rest 7 [1, 5, 6, 7, 8] (L' := [(1, .slice Al1 l1.length cl1), (5, .pointer (some ⟨bR3, 0, none⟩)), (6, .int .i64 y20), (7, .slice AR27 t25.length cR27), (8, .slice AR31 t29.length cR31)]) (by kernel_rfl) ?_
                refine QP.blockN ?_
                refine QP.next ?_
                refine WP.pick [1, 5, 6, 7, 8] ?_
                rw [Option.bind_eq_some_iff] at h
                obtain ⟨os115, h, hk116⟩ := h
                refine WP.cut (fun L' G' Γ' => ∃ s115 : Bool, s115 = os115 ∧ L' = [(1, .slice Al1 l1.length cl1), (5, .pointer (some ⟨bR3, 0, none⟩)), (6, .int .i64 y20), (79, .bool s115)] ∧ G = G' ∧ [(bR3, .cells #[.slice AR113p0_0 t111.2.f0.length cR113p0_0, .slice AR113p0_1 t111.2.f1.length cR113p0_1, mpv AR113p0_2] 63 (0, 0))] :: CR113p0_0 :: CR113p0_1 :: CR113p0_2 :: Γ = Γ') ?_ ?_
                · clear hk116
                  refine WP.region ?_
                  refine WL.pure 0 2 [1, 5, 6, 8, 63, 64] (L' := [(1, .slice Al1 l1.length cl1), (5, .pointer (some ⟨bR3, 0, none⟩)), (6, .int .i64 y20), (8, .slice AR31 t29.length cR31), (63, .slice AR27 t25.length cR27), (64, .pointer (some ⟨bR3, 0, none⟩))]) (by kernel_rfl) (by decide) ?_
                  refine WL.front (i := 3) rfl ?_
                  refine WL.front (i := 3) rfl ?_
                  refine WL.front (i := 3) rfl ?_
                  refine WL.front (i := 3) rfl ?_
                  rw [Option.bind_eq_some_iff] at h
                  obtain ⟨t117, ht118, h⟩ := h
                  refine WL.op (op := .call { callee := (.value (.func 11)), args := #[(.tmp 64)], argTypes := #[23] }) (ty := 27) (d := some 65) (g := none) (by kernel_rfl) (by kernel_rfl) (by kernel_rfl) (Does.call (f := 11) (args := [.pointer (some ⟨bR3, 0, none⟩)]) (by kernel_rfl) (fun W hI => (state_State_V_calls t111.2 bR3 AR113p0_0 cR113p0_0 CR113p0_0 HR113p0_0 AR113p0_1 cR113p0_1 CR113p0_1 HR113p0_1 AR113p0_2 cR113p0_2 CR113p0_2 HR113p0_2 t117 ht118 hI))) ?_
                  rintro _ _ _ ⟨AR119, cR119, CR119, rfl, HR119, rfl, rfl⟩
                  rw [Option.bind_eq_some_iff] at h
                  obtain ⟨t121, ht122, h⟩ := h
                  refine WL.op (op := .call { callee := (.value (.func 16)), args := #[(.tmp 63), (.tmp 65)], argTypes := #[27, 27] }) (ty := 4) (d := some 66) (g := none) (by kernel_rfl) (by kernel_rfl) (by kernel_rfl) (Does.call (Φ := fun v' G' Γ' => v' = .bool t121 ∧ G = G' ∧ CR119 :: [(bR3, .cells #[.slice AR113p0_0 t111.2.f0.length cR113p0_0, .slice AR113p0_1 t111.2.f1.length cR113p0_1, mpv AR113p0_2] 63 (0, 0))] :: CR113p0_0 :: CR113p0_1 :: CR113p0_2 :: CR31 :: CR27 :: Γ = Γ') (f := 16) (args := [.slice AR27 t25.length cR27, .slice AR119 t117.length cR119]) (by kernel_rfl) (fun W hI => (Calls.lendN (Φ := fun v' N => v' = .bool t121 ∧ N = []) (H := []) (i := 6) rfl hI (fun _ e l125 nl125 hI => by subst e; exact Calls.lendN (Φ := fun v' N => v' = .bool t121 ∧ N = []) (H := []) (i := 0) rfl hI (fun _ e l126 nl126 hI => by subst e; exact (((grapevineref3_Below_calls kn23 t25 t117 AR27 cR27 ((HR27.rdN l125 nl125).mono l126) AR119 cR119 ((HR119.mono l125).rdN l126 nl126) t121 ht122 hI)).mono fun _ _ hr => by obtain ⟨_, _, _, rfl, hd, hI⟩ := hr; obtain ⟨rfl, rfl, rfl⟩ := hd; exact ⟨_, _, _, rfl, ⟨[], ⟨rfl, rfl⟩, rfl, rfl⟩, hI⟩)))).mono fun _ _ hr => by obtain ⟨_, _, _, rfl, ⟨_, hd, rfl, rfl⟩, hI⟩ := hr; obtain ⟨rfl, rfl⟩ := hd; exact ⟨_, _, _, rfl, ⟨rfl, rfl, rfl⟩, hI⟩)) ?_
                  rintro _ _ _ ⟨rfl, rfl, rfl⟩
                  refine WL.pure 4 6 [1, 5, 6, 8, 68] (L' := [(1, .slice Al1 l1.length cl1), (5, .pointer (some ⟨bR3, 0, none⟩)), (6, .int .i64 y20), (8, .slice AR31 t29.length cR31), (68, .bool (!t121))]) (by kernel_rfl) (by decide) ?_
                  refine WL.split 68 (b := (!t121)) (by kernel_rfl) (fun hc => ?_) (fun hc => ?_)
                  · replace hc := hc
                    rw [if_pos hc] at h
                    have hc127 := hc
                    clear hc
                    refine WL.rest 6 [1, 5, 6, 79] (L' := [(1, .slice Al1 l1.length cl1), (5, .pointer (some ⟨bR3, 0, none⟩)), (6, .int .i64 y20), (79, .bool true)]) (by kernel_rfl) ?_
                    refine QP.dropAt 6 ?_
                    refine QP.dropAt 5 ?_
                    refine QP.dropAt 0 ?_
                    refine QP.pick [1, 5, 6, 79] ?_
                    exact QP.meet ⟨_, Option.some.inj h, rfl, rfl, rfl⟩
                  · replace hc := (Bool.eq_false_iff.1 hc)
                    rw [if_neg hc] at h
                    have hc127 := hc
                    clear hc
                    refine WL.pure 6 8 [1, 5, 6, 68, 69, 70] (L' := [(1, .slice Al1 l1.length cl1), (5, .pointer (some ⟨bR3, 0, none⟩)), (6, .int .i64 y20), (68, .bool false), (69, .slice AR31 t29.length cR31), (70, .pointer (some ⟨bR3, 0, none⟩))]) (by kernel_rfl) (by decide) ?_
                    refine WL.front (i := 4) rfl ?_
                    refine WL.front (i := 4) rfl ?_
                    refine WL.front (i := 4) rfl ?_
                    refine WL.front (i := 4) rfl ?_
                    rw [Option.bind_eq_some_iff] at h
                    obtain ⟨t128, ht129, h⟩ := h
                    refine WL.op (op := .call { callee := (.value (.func 12)), args := #[(.tmp 70)], argTypes := #[23] }) (ty := 27) (d := some 71) (g := some (5, false)) (by kernel_rfl) (by kernel_rfl) (by kernel_rfl) (Does.call (f := 12) (args := [.pointer (some ⟨bR3, 0, none⟩)]) (by kernel_rfl) (fun W hI => (state_State_W_calls t111.2 bR3 AR113p0_0 cR113p0_0 CR113p0_0 HR113p0_0 AR113p0_1 cR113p0_1 CR113p0_1 HR113p0_1 AR113p0_2 cR113p0_2 CR113p0_2 HR113p0_2 t128 ht129 hI))) ?_
                    rintro _ _ _ ⟨AR130, cR130, CR130, rfl, HR130, rfl, rfl⟩
                    rw [Option.bind_eq_some_iff] at h
                    obtain ⟨t132, ht133, h⟩ := h
                    refine WL.op (op := .call { callee := (.value (.func 16)), args := #[(.tmp 69), (.tmp 71)], argTypes := #[27, 27] }) (ty := 4) (d := some 72) (g := some (5, false)) (by kernel_rfl) (by kernel_rfl) (by kernel_rfl) (Does.call (Φ := fun v' G' Γ' => v' = .bool t132 ∧ G = G' ∧ CR130 :: [(bR3, .cells #[.slice AR113p0_0 t111.2.f0.length cR113p0_0, .slice AR113p0_1 t111.2.f1.length cR113p0_1, mpv AR113p0_2] 63 (0, 0))] :: CR113p0_0 :: CR113p0_1 :: CR113p0_2 :: CR119 :: CR31 :: CR27 :: Γ = Γ') (f := 16) (args := [.slice AR31 t29.length cR31, .slice AR130 t128.length cR130]) (by kernel_rfl) (fun W hI => (Calls.lendN (Φ := fun v' N => v' = .bool t132 ∧ N = []) (H := []) (i := 6) rfl hI (fun _ e l136 nl136 hI => by subst e; exact Calls.lendN (Φ := fun v' N => v' = .bool t132 ∧ N = []) (H := []) (i := 0) rfl hI (fun _ e l137 nl137 hI => by subst e; exact (((grapevineref3_Below_calls kn23 t29 t128 AR31 cR31 ((HR31.rdN l136 nl136).mono l137) AR130 cR130 ((HR130.mono l136).rdN l137 nl137) t132 ht133 hI)).mono fun _ _ hr => by obtain ⟨_, _, _, rfl, hd, hI⟩ := hr; obtain ⟨rfl, rfl, rfl⟩ := hd; exact ⟨_, _, _, rfl, ⟨[], ⟨rfl, rfl⟩, rfl, rfl⟩, hI⟩)))).mono fun _ _ hr => by obtain ⟨_, _, _, rfl, ⟨_, hd, rfl, rfl⟩, hI⟩ := hr; obtain ⟨rfl, rfl⟩ := hd; exact ⟨_, _, _, rfl, ⟨rfl, rfl, rfl⟩, hI⟩)) ?_
                    rintro _ _ _ ⟨rfl, rfl, rfl⟩
                    refine WL.pure 10 13 [1, 5, 6, 75] (L' := [(1, .slice Al1 l1.length cl1), (5, .pointer (some ⟨bR3, 0, none⟩)), (6, .int .i64 y20), (75, .bool (!t132))]) (by kernel_rfl) (by decide) ?_
                    refine WL.split 75 (b := (!t132)) (by kernel_rfl) (fun hc => ?_) (fun hc => ?_)
                    · replace hc := hc
                      rw [if_pos hc] at h
                      have hc138 := hc
                      clear hc
                      refine WL.rest 13 [1, 5, 6, 79] (L' := [(1, .slice Al1 l1.length cl1), (5, .pointer (some ⟨bR3, 0, none⟩)), (6, .int .i64 y20), (79, .bool true)]) (by kernel_rfl) ?_
                      refine QP.dropAt 7 ?_
                      refine QP.dropAt 6 ?_
                      refine QP.dropAt 5 ?_
                      refine QP.dropAt 0 ?_
                      refine QP.pick [1, 5, 6, 79] ?_
                      exact QP.meet ⟨_, Option.some.inj h, rfl, rfl, rfl⟩
                    · replace hc := (Bool.eq_false_iff.1 hc)
                      rw [if_neg hc] at h
                      have hc138 := hc
                      clear hc
                      refine WL.pure 13 14 [1, 5, 6, 75, 76] (L' := [(1, .slice Al1 l1.length cl1), (5, .pointer (some ⟨bR3, 0, none⟩)), (6, .int .i64 y20), (75, .bool false), (76, .pointer (some ⟨bR3, 0, none⟩))]) (by kernel_rfl) (by decide) ?_
                      refine WL.front (i := 4) rfl ?_
                      refine WL.front (i := 4) rfl ?_
                      refine WL.front (i := 4) rfl ?_
                      refine WL.front (i := 4) rfl ?_
                      rw [Option.bind_eq_some_iff] at h
                      obtain ⟨t139, ht140, h⟩ := h
                      refine WL.op (op := .call { callee := (.value (.func 17)), args := #[(.tmp 76)], argTypes := #[23] }) (ty := 4) (d := some 77) (g := some (12, false)) (by kernel_rfl) (by kernel_rfl) (by kernel_rfl) (Does.call (f := 17) (args := [.pointer (some ⟨bR3, 0, none⟩)]) (by kernel_rfl) (fun W hI => (grapevinelaw19_whole_calls kn23 t111.2 bR3 AR113p0_0 cR113p0_0 CR113p0_0 HR113p0_0 AR113p0_1 cR113p0_1 CR113p0_1 HR113p0_1 AR113p0_2 cR113p0_2 CR113p0_2 HR113p0_2 t139 ht140 hI))) ?_
                      rintro _ _ _ ⟨rfl, rfl, rfl⟩
                      refine WL.rest 15 [1, 5, 6, 79] (L' := [(1, .slice Al1 l1.length cl1), (5, .pointer (some ⟨bR3, 0, none⟩)), (6, .int .i64 y20), (79, .bool (!t139))]) (by kernel_rfl) ?_
                      refine QP.dropAt 7 ?_
                      refine QP.dropAt 6 ?_
                      refine QP.dropAt 5 ?_
                      refine QP.dropAt 4 ?_
                      refine QP.pick [1, 5, 6, 79] ?_
                      exact QP.meet ⟨_, Option.some.inj h, rfl, rfl, rfl⟩
                · rintro _ _ _ ⟨s115, rfl, rfl, rfl, rfl⟩
                  clear h
                  replace h := hk116
                  refine WP.cond (b := s115) (by kernel_rfl) (fun hc => ?_) (fun hc => ?_)
                  · replace hc := hc
                    rw [if_pos hc] at h
                    have hc143 := hc
                    clear hc
                    refine WP.seqP [4] (L' := [(4, .bool false)]) (by kernel_rfl) ?_
                    refine WP.dropAt 3 ?_
                    refine WP.dropAt 2 ?_
                    refine WP.dropAt 1 ?_
                    refine WP.dropAt 0 ?_
                    refine WP.ret ?_
                    refine QP.blockR ?_
                    refine QP.thenR ?_
                    refine QP.thenR ?_
                    refine QP.blockR ?_
                    refine QP.thenR ?_
                    refine QP.thenR ?_
                    obtain rfl := Option.some.inj h
                    obtain rfl := Option.some.inj (show some _ = some _ from hk19)
                    exact QP.returned [4] [.bool false] _ (by kernel_rfl) (by kernel_rfl) (by kernel_rfl) (fun W hI => ⟨_, _, _, rfl, ⟨rfl, rfl, rfl⟩, hI⟩)
                  · replace hc := (Bool.eq_false_iff.1 hc)
                    rw [if_neg hc] at h
                    have hc143 := hc
                    clear hc
                    refine WP.skip ?_
                    refine QP.blockN ?_
                    refine QP.next ?_
                    refine WP.pick [1, 5, 6] ?_
                    refine WP.regionP [1, 5, 6] (L' := [(1, .slice Al1 l1.length cl1), (5, .pointer (some ⟨bR3, 0, none⟩)), (6, .int .i64 (IntKind.i64.wrap (y20 + 1)))]) (by kernel_rfl) ?_
                    refine QP.front (i := 3) rfl ?_
                    refine QP.front (i := 3) rfl ?_
                    refine QP.front (i := 3) rfl ?_
                    refine QP.front (i := 3) rfl ?_
                    refine QP.pick [1, 5, 6] ?_
                    exact QP.meet ⟨kn23, Nat.lt_succ_self _, (IntKind.i64.wrap (y20 + 1)), t111.2, h, AR113p0_0, cR113p0_0, CR113p0_0, AR113p0_1, cR113p0_1, CR113p0_1, AR113p0_2, cR113p0_2, CR113p0_2, rfl, rfl, rfl, HR113p0_0, HR113p0_1, HR113p0_2⟩
          · replace hc := of_decide_eq_false hc
            rw [if_neg hc] at h
            have hc24 := hc
            clear hc
            refine WP.exit ?_
            refine QP.thenE ?_
            refine QP.thenE ?_
            refine QP.blockE ?_
            refine QP.pick [5] ?_
            exact QP.meet ⟨_, Option.some.inj h, Ay21_f0, cy21_f0, Cy21_f0, Ay21_f1, cy21_f1, Cy21_f1, Ay21_f2, cy21_f2, Cy21_f2, rfl, rfl, rfl, Hy21_f0, Hy21_f1, Hy21_f2⟩
      · rintro _ _ _ ⟨s18, rfl, As18_f0, cs18_f0, Cs18_f0, As18_f1, cs18_f1, Cs18_f1, As18_f2, cs18_f2, Cs18_f2, rfl, rfl, rfl, Hs18_f0, Hs18_f1, Hs18_f2⟩
        clear h
        replace h := hk19
        dsimp only at h
        refine QP.next ?_
        refine WP.pick [5] ?_
        rw [Option.bind_eq_some_iff] at h
        obtain ⟨os144, h, hk145⟩ := h
        refine WP.cut (fun L' G' Γ' => ∃ s144 : Bool, s144 = os144 ∧ L' = [(4, .bool s144)] ∧ G = G' ∧ Γ = Γ') ?_ ?_
        · clear hk145
          refine WP.region ?_
          refine WL.pure 0 1 [80] (L' := [(80, .pointer (some ⟨bR3, 0, none⟩))]) (by kernel_rfl) (by decide) ?_
          refine WL.front (i := 3) rfl ?_
          refine WL.front (i := 3) rfl ?_
          refine WL.front (i := 3) rfl ?_
          refine WL.front (i := 3) rfl ?_
          rw [Option.bind_eq_some_iff] at h
          obtain ⟨t146, ht147, h⟩ := h
          refine WL.op (op := .call { callee := (.value (.func 17)), args := #[(.tmp 80)], argTypes := #[23] }) (ty := 4) (d := some 81) (g := none) (by kernel_rfl) (by kernel_rfl) (by kernel_rfl) (Does.call (f := 17) (args := [.pointer (some ⟨bR3, 0, none⟩)]) (by kernel_rfl) (fun W hI => (grapevinelaw19_whole_calls k s18 bR3 As18_f0 cs18_f0 Cs18_f0 Hs18_f0 As18_f1 cs18_f1 Cs18_f1 Hs18_f1 As18_f2 cs18_f2 Cs18_f2 Hs18_f2 t146 ht147 hI))) ?_
          rintro _ _ _ ⟨rfl, rfl, rfl⟩
          refine WL.pure 2 3 [82] (L' := [(82, .bool t146)]) (by kernel_rfl) (by decide) ?_
          refine WL.split 82 (b := t146) (by kernel_rfl) (fun hc => ?_) (fun hc => ?_)
          · replace hc := hc
            rw [if_pos hc] at h
            have hc150 := hc
            clear hc
            rw [Option.bind_eq_some_iff] at h
            obtain ⟨t151, ht152, h⟩ := h
            refine WL.op (op := .call { callee := (.value (.func 10)), args := #[], argTypes := #[] }) (ty := 4) (d := some 83) (g := some (2, true)) (by kernel_rfl) (by kernel_rfl) (by kernel_rfl) (Does.call (f := 10) (args := []) (by kernel_rfl) (fun W hI => (grapevinelaw19_awake_calls HT k   t151 ht152 hI))) ?_
            rintro _ _ _ ⟨rfl, rfl, rfl⟩
            refine WL.rest 4 [4] (L' := [(4, .bool t151)]) (by kernel_rfl) ?_
            refine QP.dropAt 3 ?_
            refine QP.dropAt 2 ?_
            refine QP.dropAt 1 ?_
            refine QP.dropAt 0 ?_
            refine QP.pick [4] ?_
            exact QP.meet ⟨_, Option.some.inj h, rfl, rfl, rfl⟩
          · replace hc := (Bool.eq_false_iff.1 hc)
            rw [if_neg hc] at h
            have hc150 := hc
            clear hc
            refine WL.rest 3 [4] (L' := [(4, .bool false)]) (by kernel_rfl) ?_
            refine QP.dropAt 3 ?_
            refine QP.dropAt 2 ?_
            refine QP.dropAt 1 ?_
            refine QP.dropAt 0 ?_
            refine QP.pick [4] ?_
            exact QP.meet ⟨_, Option.some.inj h, rfl, rfl, rfl⟩
        · rintro _ _ _ ⟨s144, rfl, rfl, rfl, rfl⟩
          clear h
          replace h := hk145
          refine WP.ret ?_
          obtain rfl := Option.some.inj h
          exact QP.returned [4] [.bool s144] _ (by kernel_rfl) (by kernel_rfl) (by kernel_rfl) (fun W hI => ⟨_, _, _, rfl, ⟨rfl, rfl, rfl⟩, hI⟩)
/-- The plain law. -/
def StateWhole_Pure : Prop := ∀ (a0 : Int) (l1 : List T36), (Lit.int .i64 a0).wf = true → (l1.length ≤ maxLen ∧ ∀ z0 ∈ l1, ((Lit.int .i64 z0.f0).wf = true ∧ (Lit.int .i64 z0.f1).wf = true ∧ (Lit.int .i64 z0.f2).wf = true ∧ (Lit.int .i64 z0.f3).wf = true ∧ (Lit.int .i64 z0.f4).wf = true ∧ (Lit.int .i64 z0.f5).wf = true ∧ (Lit.int .i64 z0.f6).wf = true ∧ z0.f7.size ≤ maxLen ∧ (z0.f8.length ≤ maxLen ∧ ∀ zz0_f8 ∈ z0.f8, (Lit.int .i64 zz0_f8).wf = true))) → ∃ k, grapevinelaw19_StateWhole k a0 l1 = some true
end Go.Proofs.YtjefgmglgphdbaaDoor.Gf
