/- Walks of Go functions: what each tells, as a plain Lean function, and that the Go code comes to it. Written by gg.py of this repo. -/
import Derived.Test.YtajhihpaccggdaaDoorT
import Derived.Test.YtajhihpaccggdaaDoorF0
import Derived.Test.YtajhihpaccggdaaDoorF1
import Derived.Test.YtajhihpaccggdaaDoorF3
namespace Go.Proofs.YtajhihpaccggdaaDoor.Gf
open Go Go.Gg
set_option maxRecDepth 100000
set_option linter.unusedVariables false
set_option linter.unusedSimpArgs false

/-! ### grapevine/grapevinelaw12.TreeParts: function 5 -/
noncomputable def grapevinelaw12_TreeParts_l0 (t22 : Int) : Nat → Int → Int → Option Int
  | 0, _, _ => none
  | k + 1, y28, y29 => (if y29 < t22 then grapevinelaw12_TreeParts_l0 t22 k (IntKind.i64.wrap (y28 * 4)) (IntKind.i64.wrap (y29 + 1)) else some y28)
noncomputable def grapevinelaw12_TreeParts_l1 (t14 : Int × T97) (t18 : Int) (t22 : Int) (t33 : Int) : Nat → (List Int) → Int → Option (Sum Bool (List Int))
  | 0, _, _ => none
  | k + 1, y43, y44 => (if y44 < 4 then ((tree_Tree_Sum k t14.2 t18 (IntKind.i64.wrap (t22 + 1)) (IntKind.i64.wrap ((IntKind.i64.wrap (t33 * 4)) + y44))).bind fun t48 => (if (!t48.2) = true then some (Sum.inl false) else (if y43.length + ([t48.1] : List Int).length ≤ 1073741824 then grapevinelaw12_TreeParts_l1 t14 t18 t22 t33 k (y43 ++ ([t48.1] : List Int)) (IntKind.i64.wrap (y44 + 1)) else none))) else some (Sum.inr y43))
noncomputable def grapevinelaw12_TreeParts_l2 (l0 : List T36) (t14 : Int × T97) : Nat → Int → Option (Sum Bool Unit)
  | 0, _ => none
  | k + 1, y60 => (if y60 < (l0.length : Int) then ((if 0 ≤ y60 ∧ y60 < (l0.length : Int) then ((grapevineref4_MayKey (⟨(l0.getD y60.toNat z36).f0, (l0.getD y60.toNat z36).f1⟩ : T32)).bind fun t67 => (if (!t67) = true then some true else ((grapevinelaw12_single k l0 y60).bind fun t72 => some (!t72)))) else none).bind fun s64 => (if s64 = true then grapevinelaw12_TreeParts_l2 l0 t14 k (IntKind.i64.wrap (y60 + 1)) else (if 0 ≤ y60 ∧ y60 < (l0.length : Int) then ((grapevineref4_Lay k (l0.getD y60.toNat z36)).bind fun t78 => (if t78.2 = 0 then ((grapevineref5_One k t78.1).bind fun t83 => (if 0 ≤ y60 ∧ y60 < (l0.length : Int) then (if 0 ≤ y60 ∧ y60 < (l0.length : Int) then ((tree_Tree_Sum k t14.2 ((l0.getD y60.toNat z36).f0) 5 ((l0.getD y60.toNat z36).f1)).bind fun t90 => (if 0 ≤ y60 ∧ y60 < (l0.length : Int) then ((tree_Tree_Get t14.2 (⟨(l0.getD y60.toNat z36).f0, (l0.getD y60.toNat z36).f1⟩ : T32)).bind fun t95 => ((if ¬ t90.1 = t83 then some true else (if (!(t95.2 == (t78.2 == 0))) = true then some true else (if t95.2 = true then (if 0 ≤ y60 ∧ y60 < (l0.length : Int) then some (!decide (t95.1 = (l0.getD y60.toNat z36))) else none) else some false))).bind fun s100 => (if s100 = true then some (Sum.inl false) else grapevinelaw12_TreeParts_l2 l0 t14 k (IntKind.i64.wrap (y60 + 1))))) else none)) else none) else none)) else (if 0 ≤ y60 ∧ y60 < (l0.length : Int) then (if 0 ≤ y60 ∧ y60 < (l0.length : Int) then ((tree_Tree_Sum k t14.2 ((l0.getD y60.toNat z36).f0) 5 ((l0.getD y60.toNat z36).f1)).bind fun t109 => (if 0 ≤ y60 ∧ y60 < (l0.length : Int) then ((tree_Tree_Get t14.2 (⟨(l0.getD y60.toNat z36).f0, (l0.getD y60.toNat z36).f1⟩ : T32)).bind fun t114 => ((if ¬ t109.1 = 0 then some true else (if (!(t114.2 == (t78.2 == 0))) = true then some true else (if t114.2 = true then (if 0 ≤ y60 ∧ y60 < (l0.length : Int) then some (!decide (t114.1 = (l0.getD y60.toNat z36))) else none) else some false))).bind fun s119 => (if s119 = true then some (Sum.inl false) else grapevinelaw12_TreeParts_l2 l0 t14 k (IntKind.i64.wrap (y60 + 1))))) else none)) else none) else none))) else none))) else some (Sum.inr ()))
noncomputable def grapevinelaw12_TreeParts (k : Nat) (l0 : List T36) (a1 : Int) (a2 : Int) (a3 : Int) : Option Bool := ((grapevinelaw0_GreatRecords k l0 25).bind fun t1 => (if t1 = true then ((grapevinelaw12_awake k ).bind fun t6 => some t6) else ((tree_New ).bind fun t10 => ((tree_Tree_Put k t10 l0).bind fun t14 => ((grapevinelaw0_Low a1 8).bind fun t18 => ((grapevinelaw0_Low a2 5).bind fun t22 => ((grapevinelaw12_TreeParts_l0 t22 k 1 0).bind fun s26 => ((grapevinelaw0_Low a3 s26).bind fun t33 => ((tree_Tree_Sum k t14.2 t18 t22 t33).bind fun t37 => ((grapevinelaw12_TreeParts_l1 t14 t18 t22 t33 k ([] : List Int) 0).bind fun os41 => match os41 with | Sum.inl r => some r | Sum.inr s41 => ((grapevinelaw12_TreeParts_l2 l0 t14 k 0).bind fun os58 => match os58 with | Sum.inl r => some r | Sum.inr s58 => ((if t37.2 = true then ((grapevineref5_All k s41).bind fun t129 => (if t37.1 = t129 then ((grapevinelaw12_awake k ).bind fun t135 => some t135) else some false)) else some false).bind fun s126 => some s126))))))))))))
set_option maxHeartbeats 4000000 in
theorem grapevinelaw12_TreeParts_calls {B : World} {G : GMap} {Γ : List Chunk} {W : World} (HT : Tabs B G) (k : Nat) (l0 : List T36) (a1 : Int) (a2 : Int) (a3 : Int) (Al0 : Option Addr) (cl0 : Nat) (Hl0 : Rd k36 G Al0 cl0 l0) (r : Bool) (h : grapevinelaw12_TreeParts k l0 a1 a2 a3 = some r) (hI : Inv B G (Γ) W) :
    Calls Tryd.prog 5 [.slice Al0 l0.length cl0, .int .i64 a1, .int .i64 a2, .int .i64 a3].toArray W (Ret B (fun v G' Γ' => v = .bool r ∧ G = G' ∧ Γ = Γ')) := by
  refine calls_WP (Γ := Γ) (G := G) (B := B) Tryd.func5 rfl (by kernel_rfl) ?_ hI
  clear hI
  unfold grapevinelaw12_TreeParts at h
  refine WP.seqP [0, 1, 2, 3] (L' := [(0, .slice Al0 l0.length cl0), (1, .int .i64 a1), (2, .int .i64 a2), (3, .int .i64 a3)]) (by kernel_rfl) ?_
  refine WP.seq ?_
  refine WP.seqR ?_
  refine WL.pure 0 1 [0, 1, 2, 3, 26] (L' := [(0, .slice Al0 l0.length cl0), (1, .int .i64 a1), (2, .int .i64 a2), (3, .int .i64 a3), (26, .slice Al0 l0.length cl0)]) (by kernel_rfl) (by decide) ?_
  rw [Option.bind_eq_some_iff] at h
  obtain ⟨t1, ht2, h⟩ := h
  refine WL.op (op := .call { callee := (.value (.func 25)), args := #[(.tmp 26), (.const (.int .i64 25))], argTypes := #[28, 3] }) (ty := 4) (d := some 27) (g := none) (by kernel_rfl) (by kernel_rfl) (by kernel_rfl) (Does.call (f := 25) (args := [.slice Al0 l0.length cl0, .int .i64 25]) (by kernel_rfl) (fun W hI => (grapevinelaw0_GreatRecords_calls k l0 25 Al0 cl0 Hl0 t1 ht2 hI))) ?_
  rintro _ _ _ ⟨rfl, rfl, rfl⟩
  refine WL.restQ 2 [0, 1, 2, 3, 27] (L' := [(0, .slice Al0 l0.length cl0), (1, .int .i64 a1), (2, .int .i64 a2), (3, .int .i64 a3), (27, .bool t1)]) (by kernel_rfl) ?_
  refine WP.cond (b := t1) (by kernel_rfl) (fun hc => ?_) (fun hc => ?_)
  · replace hc := hc
    rw [if_pos hc] at h
    have hc5 := hc
    clear hc
    refine WP.seqR ?_
    rw [Option.bind_eq_some_iff] at h
    obtain ⟨t6, ht7, h⟩ := h
    refine WL.op (op := .call { callee := (.value (.func 13)), args := #[], argTypes := #[] }) (ty := 4) (d := some 28) (g := none) (by kernel_rfl) (by kernel_rfl) (by kernel_rfl) (Does.call (f := 13) (args := []) (by kernel_rfl) (fun W hI => (grapevinelaw12_awake_calls HT k   t6 ht7 hI))) ?_
    rintro _ _ _ ⟨rfl, rfl, rfl⟩
    refine WL.restQ 1 [8] (L' := [(8, .bool t6)]) (by kernel_rfl) ?_
    refine WP.ret ?_
    refine QP.thenR ?_
    obtain rfl := Option.some.inj h
    exact QP.returned [8] [.bool t6] _ (by kernel_rfl) (by kernel_rfl) (by kernel_rfl) (fun W hI => ⟨_, _, _, rfl, ⟨rfl, rfl, rfl⟩, hI⟩)
  · replace hc := (Bool.eq_false_iff.1 hc)
    rw [if_neg hc] at h
    have hc5 := hc
    clear hc
    refine WP.skip ?_
    refine QP.next ?_
    refine WP.pick [0, 1, 2, 3] ?_
    refine WP.seqR ?_
    rw [Option.bind_eq_some_iff] at h
    obtain ⟨t10, ht11, h⟩ := h
    refine WL.op (op := .call { callee := (.value (.func 14)), args := #[], argTypes := #[] }) (ty := 25) (d := some 29) (g := none) (by kernel_rfl) (by kernel_rfl) (by kernel_rfl) (Does.call (f := 14) (args := []) (by kernel_rfl) (fun W hI => (tree_New_calls   t10 ht11 hI))) ?_
    rintro _ _ _ ⟨bR12, AR12_0, cR12_0, CR12_0, AR12_1, cR12_1, CR12_1, rfl, HR12_0, HR12_1, rfl, rfl⟩
    refine WL.restQ 1 [0, 1, 2, 3, 9] (L' := [(0, .slice Al0 l0.length cl0), (1, .int .i64 a1), (2, .int .i64 a2), (3, .int .i64 a3), (9, .pointer (some ⟨bR12, 0, none⟩))]) (by kernel_rfl) ?_
    refine WP.seq ?_
    refine WP.seqP [0, 1, 2, 3, 9, 31] (L' := [(0, .slice Al0 l0.length cl0), (1, .int .i64 a1), (2, .int .i64 a2), (3, .int .i64 a3), (9, .pointer (some ⟨bR12, 0, none⟩)), (31, .bool false)]) (by kernel_rfl) ?_
    refine WP.no (by kernel_rfl) ?_
    refine WP.skip ?_
    refine QP.next ?_
    refine WP.pick [0, 1, 2, 3, 9] ?_
    refine WP.seqR ?_
    refine WL.pure 0 2 [0, 1, 2, 3, 9, 32, 33] (L' := [(0, .slice Al0 l0.length cl0), (1, .int .i64 a1), (2, .int .i64 a2), (3, .int .i64 a3), (9, .pointer (some ⟨bR12, 0, none⟩)), (32, .pointer (some ⟨bR12, 0, none⟩)), (33, .slice Al0 l0.length cl0)]) (by kernel_rfl) (by decide) ?_
    refine WL.front (i := 2) rfl ?_
    refine WL.front (i := 2) rfl ?_
    refine WL.front (i := 2) rfl ?_
    rw [Option.bind_eq_some_iff] at h
    obtain ⟨t14, ht15, h⟩ := h
    refine WL.op (op := .call { callee := (.value (.func 17)), args := #[(.tmp 32), (.tmp 33)], argTypes := #[25, 28] }) (ty := 3) (d := some 34) (g := none) (by kernel_rfl) (by kernel_rfl) (by kernel_rfl) (Does.call (f := 17) (args := [.pointer (some ⟨bR12, 0, none⟩), .slice Al0 l0.length cl0]) (by kernel_rfl) (fun W hI => (tree_Tree_Put_calls HT k t10 l0 bR12 AR12_0 cR12_0 CR12_0 HR12_0 AR12_1 cR12_1 CR12_1 HR12_1 Al0 cl0 Hl0 t14 ht15 hI))) ?_
    rintro _ _ _ ⟨AR16p0_0, cR16p0_0, CR16p0_0, AR16p0_1, cR16p0_1, CR16p0_1, rfl, HR16p0_0, HR16p0_1, rfl, rfl⟩
    refine WL.restQ 3 [0, 1, 2, 3, 9] (L' := [(0, .slice Al0 l0.length cl0), (1, .int .i64 a1), (2, .int .i64 a2), (3, .int .i64 a3), (9, .pointer (some ⟨bR12, 0, none⟩))]) (by kernel_rfl) ?_
    refine WP.seqR ?_
    refine WL.pure 0 1 [0, 1, 2, 3, 9, 35] (L' := [(0, .slice Al0 l0.length cl0), (1, .int .i64 a1), (2, .int .i64 a2), (3, .int .i64 a3), (9, .pointer (some ⟨bR12, 0, none⟩)), (35, .int .i64 a1)]) (by kernel_rfl) (by decide) ?_
    rw [Option.bind_eq_some_iff] at h
    obtain ⟨t18, ht19, h⟩ := h
    refine WL.op (op := .call { callee := (.value (.func 26)), args := #[(.tmp 35), (.const (.int .i64 8))], argTypes := #[3, 3] }) (ty := 3) (d := some 36) (g := none) (by kernel_rfl) (by kernel_rfl) (by kernel_rfl) (Does.call (f := 26) (args := [.int .i64 a1, .int .i64 8]) (by kernel_rfl) (fun W hI => (grapevinelaw0_Low_calls a1 8  t18 ht19 hI))) ?_
    rintro _ _ _ ⟨rfl, rfl, rfl⟩
    refine WL.pure 2 3 [0, 1, 2, 3, 9, 36, 37] (L' := [(0, .slice Al0 l0.length cl0), (1, .int .i64 a1), (2, .int .i64 a2), (3, .int .i64 a3), (9, .pointer (some ⟨bR12, 0, none⟩)), (36, .int .i64 t18), (37, .int .i64 a2)]) (by kernel_rfl) (by decide) ?_
    rw [Option.bind_eq_some_iff] at h
    obtain ⟨t22, ht23, h⟩ := h
    refine WL.op (op := .call { callee := (.value (.func 26)), args := #[(.tmp 37), (.const (.int .i64 5))], argTypes := #[3, 3] }) (ty := 3) (d := some 38) (g := none) (by kernel_rfl) (by kernel_rfl) (by kernel_rfl) (Does.call (f := 26) (args := [.int .i64 a2, .int .i64 5]) (by kernel_rfl) (fun W hI => (grapevinelaw0_Low_calls a2 5  t22 ht23 hI))) ?_
    rintro _ _ _ ⟨rfl, rfl, rfl⟩
    refine WL.restQ 4 [0, 1, 2, 3, 9] (L' := [(0, .slice Al0 l0.length cl0), (1, .int .i64 t18), (2, .int .i64 t22), (3, .int .i64 a3), (9, .pointer (some ⟨bR12, 0, none⟩))]) (by kernel_rfl) ?_
    refine WP.seqP [0, 1, 2, 3, 9, 10] (L' := [(0, .slice Al0 l0.length cl0), (1, .int .i64 t18), (2, .int .i64 t22), (3, .int .i64 a3), (9, .pointer (some ⟨bR12, 0, none⟩)), (10, .int .i64 1)]) (by kernel_rfl) ?_
    refine WP.seq ?_
    refine WP.seqP [0, 1, 2, 3, 9, 10, 11] (L' := [(0, .slice Al0 l0.length cl0), (1, .int .i64 t18), (2, .int .i64 t22), (3, .int .i64 a3), (9, .pointer (some ⟨bR12, 0, none⟩)), (10, .int .i64 1), (11, .int .i64 0)]) (by kernel_rfl) ?_
    rw [Option.bind_eq_some_iff] at h
    obtain ⟨os26, h, hk27⟩ := h
    refine WP.cutQ (fun L' G' Γ' => ∃ s26 : Int, s26 = os26 ∧ L' = [(0, .slice Al0 l0.length cl0), (1, .int .i64 t18), (2, .int .i64 t22), (3, .int .i64 a3), (9, .pointer (some ⟨bR12, 0, none⟩)), (10, .int .i64 s26)] ∧ G = G' ∧ [(bR12, .cells #[mpv AR16p0_0, mpv AR16p0_1] 97 (0, 0))] :: CR16p0_0 :: CR16p0_1 :: Γ = Γ') ?_ ?_
    · clear hk27
      refine WP.block ?_
      refine WP.pick [0, 1, 2, 3, 9, 10, 11] ?_
      refine WP.loopF (fun kn30 L' G' Γ' => ∃ (y28 : Int), ∃ (y29 : Int), grapevinelaw12_TreeParts_l0 t22 kn30 y28 y29 = some os26 ∧ L' = [(0, .slice Al0 l0.length cl0), (1, .int .i64 t18), (2, .int .i64 t22), (3, .int .i64 a3), (9, .pointer (some ⟨bR12, 0, none⟩)), (10, .int .i64 y28), (11, .int .i64 y29)] ∧ G = G' ∧ [(bR12, .cells #[mpv AR16p0_0, mpv AR16p0_1] 97 (0, 0))] :: CR16p0_0 :: CR16p0_1 :: Γ = Γ') ?_ k ⟨1, 0, h, rfl, rfl, rfl⟩
      clear h
      rintro kn31 _ _ _ ⟨y28, y29, h, rfl, rfl, rfl⟩
      cases kn31 with
      | zero => exact absurd h (by simp [grapevinelaw12_TreeParts_l0])
      | succ kn31 =>
        simp only [grapevinelaw12_TreeParts_l0] at h
        refine WP.seq ?_
        refine WP.seqP [0, 1, 2, 3, 9, 10, 11, 41] (L' := [(0, .slice Al0 l0.length cl0), (1, .int .i64 t18), (2, .int .i64 t22), (3, .int .i64 a3), (9, .pointer (some ⟨bR12, 0, none⟩)), (10, .int .i64 y28), (11, .int .i64 y29), (41, .bool (decide (y29 < t22)))]) (by kernel_rfl) ?_
        refine WP.cond (b := decide (y29 < t22)) (by kernel_rfl) (fun hc => ?_) (fun hc => ?_)
        · replace hc := of_decide_eq_true hc
          rw [if_pos hc] at h
          have hc32 := hc
          clear hc
          refine WP.skip ?_
          refine QP.next ?_
          refine WP.pick [0, 1, 2, 3, 9, 10, 11] ?_
          refine WP.seq ?_
          refine WP.block ?_
          refine WP.regionP [0, 1, 2, 3, 9, 10, 11] (L' := [(0, .slice Al0 l0.length cl0), (1, .int .i64 t18), (2, .int .i64 t22), (3, .int .i64 a3), (9, .pointer (some ⟨bR12, 0, none⟩)), (10, .int .i64 (IntKind.i64.wrap (y28 * 4))), (11, .int .i64 y29)]) (by kernel_rfl) ?_
          refine QP.blockN ?_
          refine QP.next ?_
          refine WP.pick [0, 1, 2, 3, 9, 10, 11] ?_
          refine WP.regionP [0, 1, 2, 3, 9, 10, 11] (L' := [(0, .slice Al0 l0.length cl0), (1, .int .i64 t18), (2, .int .i64 t22), (3, .int .i64 a3), (9, .pointer (some ⟨bR12, 0, none⟩)), (10, .int .i64 (IntKind.i64.wrap (y28 * 4))), (11, .int .i64 (IntKind.i64.wrap (y29 + 1)))]) (by kernel_rfl) ?_
          refine QP.front (i := 2) rfl ?_
          refine QP.front (i := 2) rfl ?_
          refine QP.front (i := 2) rfl ?_
          refine QP.pick [0, 1, 2, 3, 9, 10, 11] ?_
          exact QP.meet ⟨kn31, Nat.lt_succ_self _, (IntKind.i64.wrap (y28 * 4)), (IntKind.i64.wrap (y29 + 1)), h, rfl, rfl, rfl⟩
        · replace hc := of_decide_eq_false hc
          rw [if_neg hc] at h
          have hc32 := hc
          clear hc
          refine WP.exit ?_
          refine QP.thenE ?_
          refine QP.thenE ?_
          refine QP.blockE ?_
          refine QP.pick [0, 1, 2, 3, 9, 10] ?_
          exact QP.meet ⟨_, Option.some.inj h, rfl, rfl, rfl⟩
    · rintro _ _ _ ⟨s26, rfl, rfl, rfl, rfl⟩
      clear h
      replace h := hk27
      refine QP.next ?_
      refine WP.pick [0, 1, 2, 3, 9, 10] ?_
      refine WP.seqR ?_
      refine WL.pure 0 2 [0, 1, 2, 3, 9, 46, 47] (L' := [(0, .slice Al0 l0.length cl0), (1, .int .i64 t18), (2, .int .i64 t22), (3, .int .i64 a3), (9, .pointer (some ⟨bR12, 0, none⟩)), (46, .int .i64 a3), (47, .int .i64 s26)]) (by kernel_rfl) (by decide) ?_
      rw [Option.bind_eq_some_iff] at h
      obtain ⟨t33, ht34, h⟩ := h
      refine WL.op (op := .call { callee := (.value (.func 26)), args := #[(.tmp 46), (.tmp 47)], argTypes := #[3, 3] }) (ty := 3) (d := some 48) (g := none) (by kernel_rfl) (by kernel_rfl) (by kernel_rfl) (Does.call (f := 26) (args := [.int .i64 a3, .int .i64 s26]) (by kernel_rfl) (fun W hI => (grapevinelaw0_Low_calls a3 s26  t33 ht34 hI))) ?_
      rintro _ _ _ ⟨rfl, rfl, rfl⟩
      refine WL.restQ 3 [0, 1, 2, 3, 9] (L' := [(0, .slice Al0 l0.length cl0), (1, .int .i64 t18), (2, .int .i64 t22), (3, .int .i64 t33), (9, .pointer (some ⟨bR12, 0, none⟩))]) (by kernel_rfl) ?_
      refine WP.seqR ?_
      refine WL.pure 0 4 [0, 1, 2, 3, 9, 50, 51, 52, 53] (L' := [(0, .slice Al0 l0.length cl0), (1, .int .i64 t18), (2, .int .i64 t22), (3, .int .i64 t33), (9, .pointer (some ⟨bR12, 0, none⟩)), (50, .pointer (some ⟨bR12, 0, none⟩)), (51, .int .i64 t18), (52, .int .i64 t22), (53, .int .i64 t33)]) (by kernel_rfl) (by decide) ?_
      refine WL.front (i := 2) rfl ?_
      refine WL.front (i := 2) rfl ?_
      refine WL.front (i := 2) rfl ?_
      rw [Option.bind_eq_some_iff] at h
      obtain ⟨t37, ht38, h⟩ := h
      refine WL.op (op := .call { callee := (.value (.func 19)), args := #[(.tmp 50), (.tmp 51), (.tmp 52), (.tmp 53)], argTypes := #[25, 3, 3, 3] }) (ty := 45) (d := some 54) (g := none) (by kernel_rfl) (by kernel_rfl) (by kernel_rfl) (Does.call (f := 19) (args := [.pointer (some ⟨bR12, 0, none⟩), .int .i64 t18, .int .i64 t22, .int .i64 t33]) (by kernel_rfl) (fun W hI => (tree_Tree_Sum_calls k t14.2 t18 t22 t33 bR12 AR16p0_0 cR16p0_0 CR16p0_0 HR16p0_0 AR16p0_1 cR16p0_1 CR16p0_1 HR16p0_1 t37 ht38 hI))) ?_
      rintro _ _ _ ⟨rfl, rfl, rfl⟩
      refine WL.restQ 5 [0, 1, 2, 3, 9, 12, 13] (L' := [(0, .slice Al0 l0.length cl0), (1, .int .i64 t18), (2, .int .i64 t22), (3, .int .i64 t33), (9, .pointer (some ⟨bR12, 0, none⟩)), (12, .int .u64 t37.1), (13, .bool t37.2)]) (by kernel_rfl) ?_
      refine WP.seqP [0, 1, 2, 3, 9, 12, 13, 14] (L' := [(0, .slice Al0 l0.length cl0), (1, .int .i64 t18), (2, .int .i64 t22), (3, .int .i64 t33), (9, .pointer (some ⟨bR12, 0, none⟩)), (12, .int .u64 t37.1), (13, .bool t37.2), (14, .slice none 0 0)]) (by kernel_rfl) ?_
      refine WP.seq ?_
      refine WP.seqP [0, 1, 2, 3, 9, 12, 13, 14, 15] (L' := [(0, .slice Al0 l0.length cl0), (1, .int .i64 t18), (2, .int .i64 t22), (3, .int .i64 t33), (9, .pointer (some ⟨bR12, 0, none⟩)), (12, .int .u64 t37.1), (13, .bool t37.2), (14, .slice none 0 0), (15, .int .i64 0)]) (by kernel_rfl) ?_
      rw [Option.bind_eq_some_iff] at h
      obtain ⟨os41, h, hk42⟩ := h
      refine WP.cutQ (fun L' G' Γ' => ∃ s41 : (List Int), Sum.inr s41 = os41 ∧ ∃ (As41 : Option Addr), ∃ (cs41 : Nat), ∃ (Cs41 : Chunk), L' = [(0, .slice Al0 l0.length cl0), (9, .pointer (some ⟨bR12, 0, none⟩)), (12, .int .u64 t37.1), (13, .bool t37.2), (14, .slice As41 s41.length cs41)] ∧ G = G' ∧ Cs41 :: [(bR12, .cells #[mpv AR16p0_0, mpv AR16p0_1] 97 (0, 0))] :: CR16p0_0 :: CR16p0_1 :: Γ = Γ' ∧ Ow (kInt .u64) G As41 cs41 s41 Cs41) ?_ ?_
      · skip
        refine WP.block ?_
        refine WP.addNil ?_
        refine WP.pick [0, 1, 2, 3, 9, 12, 13, 14, 15] ?_
        refine WP.loopF (fun kn45 L' G' Γ' => ∃ (y43 : List Int), ∃ (y44 : Int), grapevinelaw12_TreeParts_l1 t14 t18 t22 t33 kn45 y43 y44 = some os41 ∧ ∃ (Ay43 : Option Addr), ∃ (cy43 : Nat), ∃ (Cy43 : Chunk), L' = [(0, .slice Al0 l0.length cl0), (1, .int .i64 t18), (2, .int .i64 t22), (3, .int .i64 t33), (9, .pointer (some ⟨bR12, 0, none⟩)), (12, .int .u64 t37.1), (13, .bool t37.2), (14, .slice Ay43 y43.length cy43), (15, .int .i64 y44)] ∧ G = G' ∧ Cy43 :: [(bR12, .cells #[mpv AR16p0_0, mpv AR16p0_1] 97 (0, 0))] :: CR16p0_0 :: CR16p0_1 :: Γ = Γ' ∧ Ow (kInt .u64) G Ay43 cy43 y43 Cy43) ?_ k ⟨([] : List Int), 0, h, none, 0, [], rfl, rfl, rfl, (Ow.nil (kInt .u64) _)⟩
        clear h
        rintro kn46 _ _ _ ⟨y43, y44, h, Ay43, cy43, Cy43, rfl, rfl, rfl, Hy43⟩
        cases kn46 with
        | zero => exact absurd h (by simp [grapevinelaw12_TreeParts_l1])
        | succ kn46 =>
          simp only [grapevinelaw12_TreeParts_l1] at h
          refine WP.seq ?_
          refine WP.seqP [0, 1, 2, 3, 9, 12, 13, 14, 15, 58] (L' := [(0, .slice Al0 l0.length cl0), (1, .int .i64 t18), (2, .int .i64 t22), (3, .int .i64 t33), (9, .pointer (some ⟨bR12, 0, none⟩)), (12, .int .u64 t37.1), (13, .bool t37.2), (14, .slice Ay43 y43.length cy43), (15, .int .i64 y44), (58, .bool (decide (y44 < 4)))]) (by kernel_rfl) ?_
          refine WP.cond (b := decide (y44 < 4)) (by kernel_rfl) (fun hc => ?_) (fun hc => ?_)
          · replace hc := of_decide_eq_true hc
            rw [if_pos hc] at h
            have hc47 := hc
            clear hc
            refine WP.skip ?_
            refine QP.next ?_
            refine WP.pick [0, 1, 2, 3, 9, 12, 13, 14, 15] ?_
            refine WP.seq ?_
            refine WP.block ?_
            refine WP.seqR ?_
            refine WL.pure 0 8 [0, 1, 2, 3, 9, 12, 13, 14, 15, 62, 63, 65, 69] (L' := [(0, .slice Al0 l0.length cl0), (1, .int .i64 t18), (2, .int .i64 t22), (3, .int .i64 t33), (9, .pointer (some ⟨bR12, 0, none⟩)), (12, .int .u64 t37.1), (13, .bool t37.2), (14, .slice Ay43 y43.length cy43), (15, .int .i64 y44), (62, .pointer (some ⟨bR12, 0, none⟩)), (63, .int .i64 t18), (65, .int .i64 (IntKind.i64.wrap (t22 + 1))), (69, .int .i64 (IntKind.i64.wrap ((IntKind.i64.wrap (t33 * 4)) + y44)))]) (by kernel_rfl) (by decide) ?_
            refine WL.front (i := 3) rfl ?_
            refine WL.front (i := 3) rfl ?_
            refine WL.front (i := 3) rfl ?_
            rw [Option.bind_eq_some_iff] at h
            obtain ⟨t48, ht49, h⟩ := h
            refine WL.op (op := .call { callee := (.value (.func 19)), args := #[(.tmp 62), (.tmp 63), (.tmp 65), (.tmp 69)], argTypes := #[25, 3, 3, 3] }) (ty := 45) (d := some 70) (g := none) (by kernel_rfl) (by kernel_rfl) (by kernel_rfl) (Does.call (f := 19) (args := [.pointer (some ⟨bR12, 0, none⟩), .int .i64 t18, .int .i64 (IntKind.i64.wrap (t22 + 1)), .int .i64 (IntKind.i64.wrap ((IntKind.i64.wrap (t33 * 4)) + y44))]) (by kernel_rfl) (fun W hI => (tree_Tree_Sum_calls kn46 t14.2 t18 (IntKind.i64.wrap (t22 + 1)) (IntKind.i64.wrap ((IntKind.i64.wrap (t33 * 4)) + y44)) bR12 AR16p0_0 cR16p0_0 CR16p0_0 HR16p0_0 AR16p0_1 cR16p0_1 CR16p0_1 HR16p0_1 t48 ht49 hI))) ?_
            rintro _ _ _ ⟨rfl, rfl, rfl⟩
            refine WL.restQ 9 [0, 1, 2, 3, 9, 12, 13, 14, 15, 16, 17] (L' := [(0, .slice Al0 l0.length cl0), (1, .int .i64 t18), (2, .int .i64 t22), (3, .int .i64 t33), (9, .pointer (some ⟨bR12, 0, none⟩)), (12, .int .u64 t37.1), (13, .bool t37.2), (14, .slice Ay43 y43.length cy43), (15, .int .i64 y44), (16, .int .u64 t48.1), (17, .bool t48.2)]) (by kernel_rfl) ?_
            refine WP.seq ?_
            refine WP.seqP [0, 1, 2, 3, 9, 12, 13, 14, 15, 16, 74] (L' := [(0, .slice Al0 l0.length cl0), (1, .int .i64 t18), (2, .int .i64 t22), (3, .int .i64 t33), (9, .pointer (some ⟨bR12, 0, none⟩)), (12, .int .u64 t37.1), (13, .bool t37.2), (14, .slice Ay43 y43.length cy43), (15, .int .i64 y44), (16, .int .u64 t48.1), (74, .bool (!t48.2))]) (by kernel_rfl) ?_
            refine WP.cond (b := (!t48.2)) (by kernel_rfl) (fun hc => ?_) (fun hc => ?_)
            · replace hc := hc
              rw [if_pos hc] at h
              have hc52 := hc
              clear hc
              refine WP.seqP [8] (L' := [(8, .bool false)]) (by kernel_rfl) ?_
              refine WP.dropAt 3 ?_
              refine WP.dropAt 2 ?_
              refine WP.dropAt 1 ?_
              refine WP.dropAt 0 ?_
              refine WP.ret ?_
              refine QP.thenR ?_
              refine QP.blockR ?_
              refine QP.thenR ?_
              refine QP.thenR ?_
              refine QP.blockR ?_
              refine QP.thenR ?_
              refine QP.thenR ?_
              obtain rfl := Option.some.inj h
              obtain rfl := Option.some.inj (show some _ = some _ from hk42)
              exact QP.returned [8] [.bool false] _ (by kernel_rfl) (by kernel_rfl) (by kernel_rfl) (fun W hI => ⟨_, _, _, rfl, ⟨rfl, rfl, rfl⟩, hI⟩)
            · replace hc := (Bool.eq_false_iff.1 hc)
              rw [if_neg hc] at h
              have hc52 := hc
              clear hc
              refine WP.skip ?_
              refine QP.next ?_
              refine WP.pick [0, 1, 2, 3, 9, 12, 13, 14, 15, 16] ?_
              refine WP.region ?_
              refine WL.pure 0 2 [0, 1, 2, 3, 9, 12, 13, 14, 15, 75, 76] (L' := [(0, .slice Al0 l0.length cl0), (1, .int .i64 t18), (2, .int .i64 t22), (3, .int .i64 t33), (9, .pointer (some ⟨bR12, 0, none⟩)), (12, .int .u64 t37.1), (13, .bool t37.2), (14, .slice Ay43 y43.length cy43), (15, .int .i64 y44), (75, .slice Ay43 y43.length cy43), (76, .int .u64 t48.1)]) (by kernel_rfl) (by decide) ?_
              refine WL.op (op := .buildSlice 53 1 #[(0, (.tmp 76))]) (ty := 53) (d := some 77) (g := none) (by kernel_rfl) (by kernel_rfl) (by kernel_rfl) (Does.new (o := .cells #[.int .u64 t48.1] 44 (0, 0)) (v := fun r => .slice (some ⟨r, 0, none⟩) 1 1) (fun r => by kernel_rfl)) ?_
              rintro _ _ _ ⟨b53, rfl, rfl, rfl⟩
              have Ho55 : Ow (kInt .u64) G (some ⟨b53, 0, none⟩) 1 ([t48.1] : List Int) [(b53, .cells #[.int .u64 t48.1] 44 (0, 0))] := Ow.lit (kd := (kInt .u64)) (G := G) (b := b53) (T := 44) (xs := ([t48.1] : List Int)) (cs := [.int .u64 t48.1]) (.cons (x := t48.1) (cs := [.int .u64 t48.1]) (by exact rfl) .nil)
              by_cases hb56 : y43.length + ([t48.1] : List Int).length ≤ 1073741824
              case neg => rw [if_neg hb56] at h; cases h
              rw [if_pos hb56] at h
              refine WL.op (op := .call { callee := (.builtin .append), args := #[(.tmp 75), (.tmp 77)], argTypes := #[53, 53] }) (ty := 53) (d := some 78) (g := none) (by kernel_rfl) (by kernel_rfl) (by kernel_rfl) (Ow.append (ys := ([t48.1] : List Int)) (v := .slice (some ⟨b53, 0, none⟩) ([t48.1] : List Int).length 1) Hy43 (i := 4) rfl (by kernel_rfl) (by kernel_rfl) (Ho55.src (i := 0) rfl) sl53 ze44 nt53 (by decide) hb56) ?_
              rintro _ _ _ ⟨rfl, AN57, cN57, CN57, rfl, HN57, rfl⟩
              refine WL.rest 4 [0, 1, 2, 3, 9, 12, 13, 14, 15] (L' := [(0, .slice Al0 l0.length cl0), (1, .int .i64 t18), (2, .int .i64 t22), (3, .int .i64 t33), (9, .pointer (some ⟨bR12, 0, none⟩)), (12, .int .u64 t37.1), (13, .bool t37.2), (14, .slice AN57 (y43 ++ ([t48.1] : List Int)).length cN57), (15, .int .i64 y44)]) (by kernel_rfl) ?_
              refine QP.blockN ?_
              refine QP.next ?_
              refine WP.pick [0, 1, 2, 3, 9, 12, 13, 14, 15] ?_
              refine WP.regionP [0, 1, 2, 3, 9, 12, 13, 14, 15] (L' := [(0, .slice Al0 l0.length cl0), (1, .int .i64 t18), (2, .int .i64 t22), (3, .int .i64 t33), (9, .pointer (some ⟨bR12, 0, none⟩)), (12, .int .u64 t37.1), (13, .bool t37.2), (14, .slice AN57 (y43 ++ ([t48.1] : List Int)).length cN57), (15, .int .i64 (IntKind.i64.wrap (y44 + 1)))]) (by kernel_rfl) ?_
              refine QP.dropAt 0 ?_
              refine QP.front (i := 2) rfl ?_
              refine QP.front (i := 2) rfl ?_
              refine QP.front (i := 2) rfl ?_
              refine QP.front (i := 3) rfl ?_
              refine QP.pick [0, 1, 2, 3, 9, 12, 13, 14, 15] ?_
              exact QP.meet ⟨kn46, Nat.lt_succ_self _, (y43 ++ ([t48.1] : List Int)), (IntKind.i64.wrap (y44 + 1)), h, AN57, cN57, CN57, rfl, rfl, rfl, HN57⟩
          · replace hc := of_decide_eq_false hc
            rw [if_neg hc] at h
            have hc47 := hc
            clear hc
            refine WP.exit ?_
            refine QP.thenE ?_
            refine QP.thenE ?_
            refine QP.blockE ?_
            refine QP.pick [0, 9, 12, 13, 14] ?_
            exact QP.meet ⟨_, Option.some.inj h, Ay43, cy43, Cy43, rfl, rfl, rfl, Hy43⟩
      · rintro _ _ _ ⟨s41, rfl, As41, cs41, Cs41, rfl, rfl, rfl, Hs41⟩
        clear h
        replace h := hk42
        dsimp only at h
        refine QP.next ?_
        refine WP.pick [0, 9, 12, 13, 14] ?_
        refine WP.seq ?_
        refine WP.seqP [0, 9, 12, 13, 14, 18] (L' := [(0, .slice Al0 l0.length cl0), (9, .pointer (some ⟨bR12, 0, none⟩)), (12, .int .u64 t37.1), (13, .bool t37.2), (14, .slice As41 s41.length cs41), (18, .int .i64 0)]) (by kernel_rfl) ?_
        rw [Option.bind_eq_some_iff] at h
        obtain ⟨os58, h, hk59⟩ := h
        refine WP.cutQ (fun L' G' Γ' => ∃ s58 : Unit, Sum.inr s58 = os58 ∧ L' = [(12, .int .u64 t37.1), (13, .bool t37.2), (14, .slice As41 s41.length cs41)] ∧ G = G' ∧ Cs41 :: Γ = Γ') ?_ ?_
        · skip
          refine WP.block ?_
          refine WP.pick [0, 9, 12, 13, 14, 18] ?_
          refine WP.loopF (fun kn61 L' G' Γ' => ∃ (y60 : Int), grapevinelaw12_TreeParts_l2 l0 t14 kn61 y60 = some os58 ∧ L' = [(0, .slice Al0 l0.length cl0), (9, .pointer (some ⟨bR12, 0, none⟩)), (12, .int .u64 t37.1), (13, .bool t37.2), (14, .slice As41 s41.length cs41), (18, .int .i64 y60)] ∧ G = G' ∧ Cs41 :: [(bR12, .cells #[mpv AR16p0_0, mpv AR16p0_1] 97 (0, 0))] :: CR16p0_0 :: CR16p0_1 :: Γ = Γ') ?_ k ⟨0, h, rfl, rfl, rfl⟩
          clear h
          rintro kn62 _ _ _ ⟨y60, h, rfl, rfl, rfl⟩
          cases kn62 with
          | zero => exact absurd h (by simp [grapevinelaw12_TreeParts_l2])
          | succ kn62 =>
            simp only [grapevinelaw12_TreeParts_l2] at h
            refine WP.seq ?_
            refine WP.seqP [0, 9, 12, 13, 14, 18, 82] (L' := [(0, .slice Al0 l0.length cl0), (9, .pointer (some ⟨bR12, 0, none⟩)), (12, .int .u64 t37.1), (13, .bool t37.2), (14, .slice As41 s41.length cs41), (18, .int .i64 y60), (82, .bool (decide (y60 < (l0.length : Int))))]) (by kernel_rfl) ?_
            refine WP.cond (b := decide (y60 < (l0.length : Int))) (by kernel_rfl) (fun hc => ?_) (fun hc => ?_)
            · replace hc := of_decide_eq_true hc
              rw [if_pos hc] at h
              have hc63 := hc
              clear hc
              refine WP.skip ?_
              refine QP.next ?_
              refine WP.pick [0, 9, 12, 13, 14, 18] ?_
              refine WP.seq ?_
              refine WP.block ?_
              refine WP.seq ?_
              rw [Option.bind_eq_some_iff] at h
              obtain ⟨os64, h, hk65⟩ := h
              refine WP.cut (fun L' G' Γ' => ∃ s64 : Bool, s64 = os64 ∧ L' = [(0, .slice Al0 l0.length cl0), (9, .pointer (some ⟨bR12, 0, none⟩)), (12, .int .u64 t37.1), (13, .bool t37.2), (14, .slice As41 s41.length cs41), (18, .int .i64 y60), (97, .bool s64)] ∧ G = G' ∧ Cs41 :: [(bR12, .cells #[mpv AR16p0_0, mpv AR16p0_1] 97 (0, 0))] :: CR16p0_0 :: CR16p0_1 :: Γ = Γ') ?_ ?_
              · clear hk65
                refine WP.region ?_
                refine WL.pure 0 2 [0, 9, 12, 13, 14, 18, 85, 86] (L' := [(0, .slice Al0 l0.length cl0), (9, .pointer (some ⟨bR12, 0, none⟩)), (12, .int .u64 t37.1), (13, .bool t37.2), (14, .slice As41 s41.length cs41), (18, .int .i64 y60), (85, .slice Al0 l0.length cl0), (86, .int .i64 y60)]) (by kernel_rfl) (by decide) ?_
                by_cases hb66 : 0 ≤ y60 ∧ y60 < (l0.length : Int)
                case neg => rw [if_neg hb66] at h; cases h
                rw [if_pos hb66] at h
                refine WL.tell (op := .indexAddr 28 (.tmp 85) (.tmp 86)) (ty := 0) (d := some 87) (g := none) (by kernel_rfl) (by kernel_rfl) (by kernel_rfl) (Tells.indexAddr (A := Al0) (n := l0.length) (c := cl0) (k := .i64) (j := y60) (by kernel_rfl) (by kernel_rfl) (Hl0.isSome hb66.1 hb66.2) hb66.1 hb66.2 sl28) ?_
                refine WL.tell (op := .fieldAddr 36 (.tmp 87) 0) (ty := 0) (d := some 88) (g := none) (by kernel_rfl) (by kernel_rfl) (by kernel_rfl) (Tells.fieldElem (m := y60.toNat * 5) (A := Al0) (by kernel_rfl) (Hl0.isSome hb66.1 hb66.2) fi36_0) ?_
                refine WL.tellE (op := .load 32 (.tmp 88)) (ty := 32) (d := some 89) (g := none) (by kernel_rfl) (by kernel_rfl) (by kernel_rfl) (Hl0.loadF (agg := true) (off := 0) hb66.1 hb66.2 z36 ag32 (fun h => by cases h) (by decide) (by kernel_rfl)) ?_
                rintro _ rfl
                rw [Option.bind_eq_some_iff] at h
                obtain ⟨t67, ht68, h⟩ := h
                refine WL.op (op := .call { callee := (.value (.func 27)), args := #[(.tmp 89)], argTypes := #[32] }) (ty := 4) (d := some 90) (g := none) (by kernel_rfl) (by kernel_rfl) (by kernel_rfl) (Does.call (f := 27) (args := [.agg #[.int .i64 ((l0.getD y60.toNat z36).f0), .int .i64 ((l0.getD y60.toNat z36).f1)]]) (by kernel_rfl) (fun W hI => (grapevineref4_MayKey_calls (⟨(l0.getD y60.toNat z36).f0, (l0.getD y60.toNat z36).f1⟩ : T32)  t67 ht68 hI))) ?_
                rintro _ _ _ ⟨rfl, rfl, rfl⟩
                refine WL.pure 6 8 [0, 9, 12, 13, 14, 18, 92] (L' := [(0, .slice Al0 l0.length cl0), (9, .pointer (some ⟨bR12, 0, none⟩)), (12, .int .u64 t37.1), (13, .bool t37.2), (14, .slice As41 s41.length cs41), (18, .int .i64 y60), (92, .bool (!t67))]) (by kernel_rfl) (by decide) ?_
                refine WL.split 92 (b := (!t67)) (by kernel_rfl) (fun hc => ?_) (fun hc => ?_)
                · replace hc := hc
                  rw [if_pos hc] at h
                  have hc71 := hc
                  clear hc
                  refine WL.rest 8 [0, 9, 12, 13, 14, 18, 97] (L' := [(0, .slice Al0 l0.length cl0), (9, .pointer (some ⟨bR12, 0, none⟩)), (12, .int .u64 t37.1), (13, .bool t37.2), (14, .slice As41 s41.length cs41), (18, .int .i64 y60), (97, .bool true)]) (by kernel_rfl) ?_
                  refine QP.pick [0, 9, 12, 13, 14, 18, 97] ?_
                  exact QP.meet ⟨_, Option.some.inj h, rfl, rfl, rfl⟩
                · replace hc := (Bool.eq_false_iff.1 hc)
                  rw [if_neg hc] at h
                  have hc71 := hc
                  clear hc
                  refine WL.pure 8 10 [0, 9, 12, 13, 14, 18, 92, 93, 94] (L' := [(0, .slice Al0 l0.length cl0), (9, .pointer (some ⟨bR12, 0, none⟩)), (12, .int .u64 t37.1), (13, .bool t37.2), (14, .slice As41 s41.length cs41), (18, .int .i64 y60), (92, .bool false), (93, .slice Al0 l0.length cl0), (94, .int .i64 y60)]) (by kernel_rfl) (by decide) ?_
                  rw [Option.bind_eq_some_iff] at h
                  obtain ⟨t72, ht73, h⟩ := h
                  refine WL.op (op := .call { callee := (.value (.func 28)), args := #[(.tmp 93), (.tmp 94)], argTypes := #[28, 3] }) (ty := 4) (d := some 95) (g := some (7, false)) (by kernel_rfl) (by kernel_rfl) (by kernel_rfl) (Does.call (f := 28) (args := [.slice Al0 l0.length cl0, .int .i64 y60]) (by kernel_rfl) (fun W hI => (grapevinelaw12_single_calls kn62 l0 y60 Al0 cl0 Hl0 t72 ht73 hI))) ?_
                  rintro _ _ _ ⟨rfl, rfl, rfl⟩
                  refine WL.rest 11 [0, 9, 12, 13, 14, 18, 97] (L' := [(0, .slice Al0 l0.length cl0), (9, .pointer (some ⟨bR12, 0, none⟩)), (12, .int .u64 t37.1), (13, .bool t37.2), (14, .slice As41 s41.length cs41), (18, .int .i64 y60), (97, .bool (!t72))]) (by kernel_rfl) ?_
                  refine QP.pick [0, 9, 12, 13, 14, 18, 97] ?_
                  exact QP.meet ⟨_, Option.some.inj h, rfl, rfl, rfl⟩
              · rintro _ _ _ ⟨s64, rfl, rfl, rfl, rfl⟩
                clear h
                replace h := hk65
                refine WP.cond (b := s64) (by kernel_rfl) (fun hc => ?_) (fun hc => ?_)
                · replace hc := hc
                  rw [if_pos hc] at h
                  have hc76 := hc
                  clear hc
                  refine WP.exit ?_
                  refine QP.thenE ?_
                  refine QP.blockE ?_
                  refine QP.next ?_
                  refine WP.pick [0, 9, 12, 13, 14, 18] ?_
                  refine WP.regionP [0, 9, 12, 13, 14, 18] (L' := [(0, .slice Al0 l0.length cl0), (9, .pointer (some ⟨bR12, 0, none⟩)), (12, .int .u64 t37.1), (13, .bool t37.2), (14, .slice As41 s41.length cs41), (18, .int .i64 (IntKind.i64.wrap (y60 + 1)))]) (by kernel_rfl) ?_
                  refine QP.front (i := 3) rfl ?_
                  refine QP.front (i := 3) rfl ?_
                  refine QP.front (i := 3) rfl ?_
                  refine QP.front (i := 3) rfl ?_
                  refine QP.pick [0, 9, 12, 13, 14, 18] ?_
                  exact QP.meet ⟨kn62, Nat.lt_succ_self _, (IntKind.i64.wrap (y60 + 1)), h, rfl, rfl, rfl⟩
                · replace hc := (Bool.eq_false_iff.1 hc)
                  rw [if_neg hc] at h
                  have hc76 := hc
                  clear hc
                  refine WP.skip ?_
                  refine QP.next ?_
                  refine WP.pick [0, 9, 12, 13, 14, 18] ?_
                  refine WP.seqP [0, 9, 12, 13, 14, 18, 19] (L' := [(0, .slice Al0 l0.length cl0), (9, .pointer (some ⟨bR12, 0, none⟩)), (12, .int .u64 t37.1), (13, .bool t37.2), (14, .slice As41 s41.length cs41), (18, .int .i64 y60), (19, .int .u64 0)]) (by kernel_rfl) ?_
                  refine WP.seqR ?_
                  refine WL.pure 0 2 [0, 9, 12, 13, 14, 18, 19, 99, 100] (L' := [(0, .slice Al0 l0.length cl0), (9, .pointer (some ⟨bR12, 0, none⟩)), (12, .int .u64 t37.1), (13, .bool t37.2), (14, .slice As41 s41.length cs41), (18, .int .i64 y60), (19, .int .u64 0), (99, .slice Al0 l0.length cl0), (100, .int .i64 y60)]) (by kernel_rfl) (by decide) ?_
                  by_cases hb77 : 0 ≤ y60 ∧ y60 < (l0.length : Int)
                  case neg => rw [if_neg hb77] at h; cases h
                  rw [if_pos hb77] at h
                  refine WL.tell (op := .indexAddr 28 (.tmp 99) (.tmp 100)) (ty := 0) (d := some 101) (g := none) (by kernel_rfl) (by kernel_rfl) (by kernel_rfl) (Tells.indexAddr (A := Al0) (n := l0.length) (c := cl0) (k := .i64) (j := y60) (by kernel_rfl) (by kernel_rfl) (Hl0.isSome hb77.1 hb77.2) hb77.1 hb77.2 sl28) ?_
                  refine WL.tellE (op := .load 36 (.tmp 101)) (ty := 36) (d := some 102) (g := none) (by kernel_rfl) (by kernel_rfl) (by kernel_rfl) (Hl0.load (agg := true) hb77.1 hb77.2 z36 ag36 (fun h => by cases h) (by kernel_rfl)) ?_
                  rintro _ rfl
                  rw [Option.bind_eq_some_iff] at h
                  obtain ⟨t78, ht79, h⟩ := h
                  refine WL.op (op := .call { callee := (.value (.func 29)), args := #[(.tmp 102)], argTypes := #[36] }) (ty := 56) (d := some 103) (g := none) (by kernel_rfl) (by kernel_rfl) (by kernel_rfl) (Does.call (f := 29) (args := [.agg #[.int .i64 ((l0.getD y60.toNat z36).f0), .int .i64 ((l0.getD y60.toNat z36).f1), .int .i64 ((l0.getD y60.toNat z36).f2), .int .i64 ((l0.getD y60.toNat z36).f3), .string ((l0.getD y60.toNat z36).f4)]]) (by kernel_rfl) (fun W hI => (grapevineref4_Lay_calls HT kn62 (l0.getD y60.toNat z36)  t78 ht79 hI))) ?_
                  rintro _ _ _ ⟨AR800, cR800, CR800, rfl, HR800, rfl, rfl⟩
                  refine WL.restQ 5 [0, 9, 12, 13, 14, 18, 19, 20, 21] (L' := [(0, .slice Al0 l0.length cl0), (9, .pointer (some ⟨bR12, 0, none⟩)), (12, .int .u64 t37.1), (13, .bool t37.2), (14, .slice As41 s41.length cs41), (18, .int .i64 y60), (19, .int .u64 0), (20, .slice AR800 t78.1.length cR800), (21, .int .i64 t78.2)]) (by kernel_rfl) ?_
                  refine WP.seq ?_
                  refine WP.seqP [0, 9, 12, 13, 14, 18, 19, 20, 21, 107] (L' := [(0, .slice Al0 l0.length cl0), (9, .pointer (some ⟨bR12, 0, none⟩)), (12, .int .u64 t37.1), (13, .bool t37.2), (14, .slice As41 s41.length cs41), (18, .int .i64 y60), (19, .int .u64 0), (20, .slice AR800 t78.1.length cR800), (21, .int .i64 t78.2), (107, .bool (t78.2 == 0))]) (by kernel_rfl) ?_
                  refine WP.cond (b := (t78.2 == 0)) (by kernel_rfl) (fun hc => ?_) (fun hc => ?_)
                  · replace hc := eq_of_beq hc
                    rw [if_pos hc] at h
                    have hc82 := hc
                    clear hc
                    refine WP.region ?_
                    refine WL.pure 0 1 [0, 9, 12, 13, 14, 18, 19, 21, 108] (L' := [(0, .slice Al0 l0.length cl0), (9, .pointer (some ⟨bR12, 0, none⟩)), (12, .int .u64 t37.1), (13, .bool t37.2), (14, .slice As41 s41.length cs41), (18, .int .i64 y60), (19, .int .u64 0), (21, .int .i64 t78.2), (108, .slice AR800 t78.1.length cR800)]) (by kernel_rfl) (by decide) ?_
                    rw [Option.bind_eq_some_iff] at h
                    obtain ⟨t83, ht84, h⟩ := h
                    refine WL.op (op := .call { callee := (.value (.func 30)), args := #[(.tmp 108)], argTypes := #[55] }) (ty := 44) (d := some 109) (g := none) (by kernel_rfl) (by kernel_rfl) (by kernel_rfl) (Does.call (Φ := fun v' G' Γ' => v' = .int .u64 t83 ∧ G = G' ∧ CR800 :: Cs41 :: [(bR12, .cells #[mpv AR16p0_0, mpv AR16p0_1] 97 (0, 0))] :: CR16p0_0 :: CR16p0_1 :: Γ = Γ') (f := 30) (args := [.slice AR800 t78.1.length cR800]) (by kernel_rfl) (fun W hI => (Calls.lendN (Φ := fun v' N => v' = .int .u64 t83 ∧ N = []) (H := []) (i := 0) rfl hI (fun _ e l87 nl87 hI => by subst e; exact (((grapevineref5_One_calls kn62 t78.1 AR800 cR800 (HR800.rdN l87 nl87) t83 ht84 hI)).mono fun _ _ hr => by obtain ⟨_, _, _, rfl, hd, hI⟩ := hr; obtain ⟨rfl, rfl, rfl⟩ := hd; exact ⟨_, _, _, rfl, ⟨[], ⟨rfl, rfl⟩, rfl, rfl⟩, hI⟩))).mono fun _ _ hr => by obtain ⟨_, _, _, rfl, ⟨_, hd, rfl, rfl⟩, hI⟩ := hr; obtain ⟨rfl, rfl⟩ := hd; exact ⟨_, _, _, rfl, ⟨rfl, rfl, rfl⟩, hI⟩)) ?_
                    rintro _ _ _ ⟨rfl, rfl, rfl⟩
                    refine WL.rest 2 [0, 9, 12, 13, 14, 18, 19, 21] (L' := [(0, .slice Al0 l0.length cl0), (9, .pointer (some ⟨bR12, 0, none⟩)), (12, .int .u64 t37.1), (13, .bool t37.2), (14, .slice As41 s41.length cs41), (18, .int .i64 y60), (19, .int .u64 t83), (21, .int .i64 t78.2)]) (by kernel_rfl) ?_
                    refine QP.next ?_
                    refine WP.pick [0, 9, 12, 13, 14, 18, 19, 21] ?_
                    refine WP.seq ?_
                    refine WP.any (N := 19) (S := [⟨some 111, [9], []⟩, ⟨some 112, [0], []⟩, ⟨some 113, [18], []⟩, ⟨some 114, [112, 113], [1, 2]⟩, ⟨some 115, [114], [3]⟩, ⟨some 116, [115], [4]⟩, ⟨some 117, [116], [5]⟩, ⟨some 118, [0], []⟩, ⟨some 119, [18], []⟩, ⟨some 120, [118, 119], [7, 8]⟩, ⟨some 121, [120], [9]⟩, ⟨some 122, [121], [10]⟩, ⟨some 123, [122], [11]⟩, ⟨some 124, [111, 117, 123], [0, 6, 12]⟩, ⟨some 110, [124], [13]⟩, ⟨some 125, [110], [14]⟩, ⟨some 126, [110], [14]⟩, ⟨some 22, [125], [0, 1, 2, 3, 4, 5, 6, 7, 8, 9, 10, 11, 12, 13, 14, 15]⟩, ⟨some 23, [126], [0, 1, 2, 3, 4, 5, 6, 7, 8, 9, 10, 11, 12, 13, 14, 15, 16, 17]⟩]) (kw := 19) (G0 := G) (Γ0 := CR800 :: Cs41 :: [(bR12, .cells #[mpv AR16p0_0, mpv AR16p0_1] 97 (0, 0))] :: CR16p0_0 :: CR16p0_1 :: Γ) mo (by kernel_rfl) (fun hS => ?_)
                    refine WA.pure [0, 1, 2, 7, 8] [0, 9, 12, 13, 14, 18, 19, 21, 111, 112, 113, 118, 119] (m := 14) (b' := 391) (L' := [(0, .slice Al0 l0.length cl0), (9, .pointer (some ⟨bR12, 0, none⟩)), (12, .int .u64 t37.1), (13, .bool t37.2), (14, .slice As41 s41.length cs41), (18, .int .i64 y60), (19, .int .u64 t83), (21, .int .i64 t78.2), (111, .pointer (some ⟨bR12, 0, none⟩)), (112, .slice Al0 l0.length cl0), (113, .int .i64 y60), (118, .slice Al0 l0.length cl0), (119, .int .i64 y60)]) (by kernel_rfl) (NoPanic.then (NoPanic.block (NoPanic.then (NoPanic.then (NoPanic.block (NoPanic.then (NoPanic.then (NoPanic.body)))))))) Under.refl hS (by kernel_rfl) ?_
                    by_cases hb88 : 0 ≤ y60 ∧ y60 < (l0.length : Int)
                    case neg => rw [if_neg hb88] at h; cases h
                    rw [if_pos hb88] at h
                    refine WA.tellD [] (i := 3) (m := 13) (b' := 399) (by kernel_rfl) (NoPanic.then (NoPanic.block (NoPanic.then (NoPanic.then (NoPanic.block (NoPanic.then (NoPanic.then (NoPanic.body)))))))) Under.refl hS (by kernel_rfl) (op := .indexAddr 28 (.tmp 112) (.tmp 113)) (ty := 0) (d := some 114) (g := none) (by kernel_rfl) (by kernel_rfl) (by kernel_rfl) (Tells.indexAddr (A := Al0) (n := l0.length) (c := cl0) (k := .i64) (j := y60) (by kernel_rfl) (by kernel_rfl) (Hl0.isSome hb88.1 hb88.2) hb88.1 hb88.2 sl28) ?_
                    refine WA.tellD [] (i := 4) (m := 12) (b' := 415) (by kernel_rfl) (NoPanic.then (NoPanic.block (NoPanic.then (NoPanic.then (NoPanic.block (NoPanic.then (NoPanic.then (NoPanic.body)))))))) Under.refl hS (by kernel_rfl) (op := .fieldAddr 36 (.tmp 114) 0) (ty := 0) (d := some 115) (g := none) (by kernel_rfl) (by kernel_rfl) (by kernel_rfl) (Tells.fieldElem (m := y60.toNat * 5) (A := Al0) (by kernel_rfl) (Hl0.isSome hb88.1 hb88.2) fi36_0) ?_
                    refine WA.tellD [] (i := 5) (m := 11) (b' := 447) (by kernel_rfl) (NoPanic.then (NoPanic.block (NoPanic.then (NoPanic.then (NoPanic.block (NoPanic.then (NoPanic.then (NoPanic.body)))))))) Under.refl hS (by kernel_rfl) (op := .fieldAddr 32 (.tmp 115) 0) (ty := 0) (d := some 116) (g := none) (by kernel_rfl) (by kernel_rfl) (by kernel_rfl) (Tells.fieldElem (m := y60.toNat * 5 + 0) (A := Al0) (by kernel_rfl) (Hl0.isSome hb88.1 hb88.2) fi32_0) ?_
                    refine WA.tellDE [] (i := 6) (m := 10) (b' := 511) (by kernel_rfl) (NoPanic.then (NoPanic.block (NoPanic.then (NoPanic.then (NoPanic.block (NoPanic.then (NoPanic.then (NoPanic.body)))))))) Under.refl hS (by kernel_rfl) (op := .load 3 (.tmp 116)) (ty := 3) (d := some 117) (g := none) (by kernel_rfl) (by kernel_rfl) (by kernel_rfl) (Hl0.loadF (agg := false) (off := 0) hb88.1 hb88.2 z36 ag3 (fun _ => rfl) (by decide) (by kernel_rfl)) ?_
                    rintro _ rfl
                    by_cases hb89 : 0 ≤ y60 ∧ y60 < (l0.length : Int)
                    case neg => rw [if_neg hb89] at h; cases h
                    rw [if_pos hb89] at h
                    refine WA.tellD [] (i := 9) (m := 9) (b' := 1023) (by kernel_rfl) (NoPanic.then (NoPanic.block (NoPanic.then (NoPanic.then (NoPanic.block (NoPanic.then (NoPanic.then (NoPanic.body)))))))) Under.refl hS (by kernel_rfl) (op := .indexAddr 28 (.tmp 118) (.tmp 119)) (ty := 0) (d := some 120) (g := none) (by kernel_rfl) (by kernel_rfl) (by kernel_rfl) (Tells.indexAddr (A := Al0) (n := l0.length) (c := cl0) (k := .i64) (j := y60) (by kernel_rfl) (by kernel_rfl) (Hl0.isSome hb89.1 hb89.2) hb89.1 hb89.2 sl28) ?_
                    refine WA.tellD [] (i := 10) (m := 8) (b' := 2047) (by kernel_rfl) (NoPanic.then (NoPanic.block (NoPanic.then (NoPanic.then (NoPanic.block (NoPanic.then (NoPanic.then (NoPanic.body)))))))) Under.refl hS (by kernel_rfl) (op := .fieldAddr 36 (.tmp 120) 0) (ty := 0) (d := some 121) (g := none) (by kernel_rfl) (by kernel_rfl) (by kernel_rfl) (Tells.fieldElem (m := y60.toNat * 5) (A := Al0) (by kernel_rfl) (Hl0.isSome hb89.1 hb89.2) fi36_0) ?_
                    refine WA.tellD [] (i := 11) (m := 7) (b' := 4095) (by kernel_rfl) (NoPanic.then (NoPanic.block (NoPanic.then (NoPanic.then (NoPanic.block (NoPanic.then (NoPanic.then (NoPanic.body)))))))) Under.refl hS (by kernel_rfl) (op := .fieldAddr 32 (.tmp 121) 1) (ty := 0) (d := some 122) (g := none) (by kernel_rfl) (by kernel_rfl) (by kernel_rfl) (Tells.fieldElem (m := y60.toNat * 5 + 0) (A := Al0) (by kernel_rfl) (Hl0.isSome hb89.1 hb89.2) fi32_1) ?_
                    refine WA.tellDE [] (i := 12) (m := 6) (b' := 8191) (by kernel_rfl) (NoPanic.then (NoPanic.block (NoPanic.then (NoPanic.then (NoPanic.block (NoPanic.then (NoPanic.then (NoPanic.body)))))))) Under.refl hS (by kernel_rfl) (op := .load 3 (.tmp 122)) (ty := 3) (d := some 123) (g := none) (by kernel_rfl) (by kernel_rfl) (by kernel_rfl) (Hl0.loadF (agg := false) (off := 1) hb89.1 hb89.2 z36 ag3 (fun _ => rfl) (by decide) (by kernel_rfl)) ?_
                    rintro _ rfl
                    refine WA.front (i := 4) rfl ?_
                    refine WA.front (i := 4) rfl ?_
                    refine WA.front (i := 4) rfl ?_
                    rw [Option.bind_eq_some_iff] at h
                    obtain ⟨t90, ht91, h⟩ := h
                    refine WA.op (i := 13) (m := 5) (b' := 16383) (by kernel_rfl) hS (by kernel_rfl) (op := .call { callee := (.value (.func 19)), args := #[(.tmp 111), (.tmp 117), (.const (.int .i64 5)), (.tmp 123)], argTypes := #[25, 3, 3, 3] }) (ty := 45) (d := some 124) (g := none) (by kernel_rfl) (by kernel_rfl) (by kernel_rfl) (Does.call (f := 19) (args := [.pointer (some ⟨bR12, 0, none⟩), .int .i64 ((l0.getD y60.toNat z36).f0), .int .i64 5, .int .i64 ((l0.getD y60.toNat z36).f1)]) (by kernel_rfl) (fun W hI => (tree_Tree_Sum_calls kn62 t14.2 ((l0.getD y60.toNat z36).f0) 5 ((l0.getD y60.toNat z36).f1) bR12 AR16p0_0 cR16p0_0 CR16p0_0 HR16p0_0 AR16p0_1 cR16p0_1 CR16p0_1 HR16p0_1 t90 ht91 hI))) ?_
                    rintro _ _ _ ⟨rfl, rfl, rfl⟩
                    refine ⟨_, _, (Under.trans (Under.front (i := 4) rfl (Under.front (i := 4) rfl (Under.front (i := 4) rfl (Under.refl)))) (Under.refl)), Under.refl, ?_⟩
                    refine WA.pure [14, 15, 16, 17, 18] [0, 9, 12, 13, 14, 18, 19, 21, 22] (m := 0) (b' := 524287) (L' := [(0, .slice Al0 l0.length cl0), (9, .pointer (some ⟨bR12, 0, none⟩)), (12, .int .u64 t37.1), (13, .bool t37.2), (14, .slice As41 s41.length cs41), (18, .int .i64 y60), (19, .int .u64 t83), (21, .int .i64 t78.2), (22, .int .u64 t90.1)]) (by kernel_rfl) (NoPanic.then (NoPanic.block (NoPanic.then (NoPanic.then (NoPanic.block (NoPanic.then (NoPanic.then (NoPanic.body)))))))) Under.refl hS (by kernel_rfl) ?_
                    refine WA.done hS (by kernel_rfl) ?_
                    refine QP.pick [0, 9, 12, 13, 14, 18, 19, 21, 22] ?_
                    refine QP.next ?_
                    refine WP.dropAt 3 ?_
                    refine WP.seqR ?_
                    refine WL.pure 0 3 [0, 9, 12, 13, 14, 18, 19, 21, 22, 128, 129, 130] (L' := [(0, .slice Al0 l0.length cl0), (9, .pointer (some ⟨bR12, 0, none⟩)), (12, .int .u64 t37.1), (13, .bool t37.2), (14, .slice As41 s41.length cs41), (18, .int .i64 y60), (19, .int .u64 t83), (21, .int .i64 t78.2), (22, .int .u64 t90.1), (128, .pointer (some ⟨bR12, 0, none⟩)), (129, .slice Al0 l0.length cl0), (130, .int .i64 y60)]) (by kernel_rfl) (by decide) ?_
                    by_cases hb94 : 0 ≤ y60 ∧ y60 < (l0.length : Int)
                    case neg => rw [if_neg hb94] at h; cases h
                    rw [if_pos hb94] at h
                    refine WL.tell (op := .indexAddr 28 (.tmp 129) (.tmp 130)) (ty := 0) (d := some 131) (g := none) (by kernel_rfl) (by kernel_rfl) (by kernel_rfl) (Tells.indexAddr (A := Al0) (n := l0.length) (c := cl0) (k := .i64) (j := y60) (by kernel_rfl) (by kernel_rfl) (Hl0.isSome hb94.1 hb94.2) hb94.1 hb94.2 sl28) ?_
                    refine WL.tell (op := .fieldAddr 36 (.tmp 131) 0) (ty := 0) (d := some 132) (g := none) (by kernel_rfl) (by kernel_rfl) (by kernel_rfl) (Tells.fieldElem (m := y60.toNat * 5) (A := Al0) (by kernel_rfl) (Hl0.isSome hb94.1 hb94.2) fi36_0) ?_
                    refine WL.tellE (op := .load 32 (.tmp 132)) (ty := 32) (d := some 133) (g := none) (by kernel_rfl) (by kernel_rfl) (by kernel_rfl) (Hl0.loadF (agg := true) (off := 0) hb94.1 hb94.2 z36 ag32 (fun h => by cases h) (by decide) (by kernel_rfl)) ?_
                    rintro _ rfl
                    refine WL.front (i := 2) rfl ?_
                    refine WL.front (i := 2) rfl ?_
                    refine WL.front (i := 2) rfl ?_
                    rw [Option.bind_eq_some_iff] at h
                    obtain ⟨t95, ht96, h⟩ := h
                    refine WL.op (op := .call { callee := (.value (.func 31)), args := #[(.tmp 128), (.tmp 133)], argTypes := #[25, 32] }) (ty := 59) (d := some 134) (g := none) (by kernel_rfl) (by kernel_rfl) (by kernel_rfl) (Does.call (f := 31) (args := [.pointer (some ⟨bR12, 0, none⟩), .agg #[.int .i64 ((l0.getD y60.toNat z36).f0), .int .i64 ((l0.getD y60.toNat z36).f1)]]) (by kernel_rfl) (fun W hI => (tree_Tree_Get_calls t14.2 (⟨(l0.getD y60.toNat z36).f0, (l0.getD y60.toNat z36).f1⟩ : T32) bR12 AR16p0_0 cR16p0_0 CR16p0_0 HR16p0_0 AR16p0_1 cR16p0_1 CR16p0_1 HR16p0_1 t95 ht96 hI))) ?_
                    rintro _ _ _ ⟨rfl, rfl, rfl⟩
                    refine WL.pure 7 10 [0, 9, 12, 13, 14, 18, 19, 21, 22, 135, 136] (L' := [(0, .slice Al0 l0.length cl0), (9, .pointer (some ⟨bR12, 0, none⟩)), (12, .int .u64 t37.1), (13, .bool t37.2), (14, .slice As41 s41.length cs41), (18, .int .i64 y60), (19, .int .u64 t83), (21, .int .i64 t78.2), (22, .int .u64 t90.1), (135, .agg #[.int .i64 t95.1.f0, .int .i64 t95.1.f1, .int .i64 t95.1.f2, .int .i64 t95.1.f3, .string t95.1.f4]), (136, .bool t95.2)]) (by kernel_rfl) (by decide) ?_
                    refine WL.op (op := .alloc 36) (ty := 0) (d := some 24) (g := none) (by kernel_rfl) (by kernel_rfl) (by kernel_rfl) (Does.new (o := .cells #[.int .i64 0, .int .i64 0, .int .i64 0, .int .i64 0, .string (⟨#[]⟩ : ByteArray)] 36 (0, 0)) (v := fun r => .pointer (some ⟨r, 0, none⟩)) (fun r => by kernel_rfl)) ?_
                    rintro _ _ _ ⟨b99, rfl, rfl, rfl⟩
                    refine WL.op (op := .store 36 (.tmp 24) (.tmp 135)) (ty := 0) (d := none) (g := none) (by kernel_rfl) (by kernel_rfl) (by kernel_rfl) (Does.store_box (i := 0) (b := b99) (o := 0) (v := .agg #[.int .i64 t95.1.f0, .int .i64 t95.1.f1, .int .i64 t95.1.f2, .int .i64 t95.1.f3, .string t95.1.f4]) (by rfl) sz36 (by kernel_rfl) (by kernel_rfl) (by kernel_rfl) (Free.zero _) (Nat.le_of_ble_eq_true rfl) (cells' := #[.int .i64 t95.1.f0, .int .i64 t95.1.f1, .int .i64 t95.1.f2, .int .i64 t95.1.f3, .string t95.1.f4]) (by kernel_rfl)) ?_
                    rintro _ _ _ ⟨rfl, rfl, rfl⟩
                    refine WL.restQ 12 [0, 9, 12, 13, 14, 18, 19, 21, 22, 24, 25] (L' := [(0, .slice Al0 l0.length cl0), (9, .pointer (some ⟨bR12, 0, none⟩)), (12, .int .u64 t37.1), (13, .bool t37.2), (14, .slice As41 s41.length cs41), (18, .int .i64 y60), (19, .int .u64 t83), (21, .int .i64 t78.2), (22, .int .u64 t90.1), (24, .pointer (some ⟨b99, 0, none⟩)), (25, .bool t95.2)]) (by kernel_rfl) ?_
                    rw [Option.bind_eq_some_iff] at h
                    obtain ⟨os100, h, hk101⟩ := h
                    refine WP.cut (fun L' G' Γ' => ∃ s100 : Bool, s100 = os100 ∧ L' = [(0, .slice Al0 l0.length cl0), (9, .pointer (some ⟨bR12, 0, none⟩)), (12, .int .u64 t37.1), (13, .bool t37.2), (14, .slice As41 s41.length cs41), (18, .int .i64 y60), (156, .bool s100)] ∧ G = G' ∧ [(bR12, .cells #[mpv AR16p0_0, mpv AR16p0_1] 97 (0, 0))] :: CR16p0_0 :: CR16p0_1 :: Cs41 :: Γ = Γ') ?_ ?_
                    · clear hk101
                      skip
                      refine WP.any (N := 20) (S := [⟨some 137, [22], []⟩, ⟨some 138, [19], []⟩, ⟨some 139, [137, 138], [0, 1]⟩, ⟨some 140, [139], [2]⟩, ⟨some 141, [25, 140], [3]⟩, ⟨some 142, [21, 140], [3]⟩, ⟨some 143, [140, 142], [3, 5]⟩, ⟨some 144, [140, 141, 143], [3, 4, 6]⟩, ⟨some 145, [140, 144], [3, 7]⟩, ⟨some 146, [145], [3, 8]⟩, ⟨some 147, [25, 146], [9]⟩, ⟨some 148, [146, 147], [9, 10]⟩, ⟨some 149, [24, 148], [11]⟩, ⟨some 150, [0, 148], [11]⟩, ⟨some 151, [18, 148], [11]⟩, ⟨some 152, [148, 150, 151], [11, 13, 14]⟩, ⟨some 153, [148, 152], [11, 15]⟩, ⟨some 154, [148, 149, 153], [11, 12, 16]⟩, ⟨some 155, [146, 148, 154], [9, 11, 17]⟩, ⟨some 156, [146, 155], [9, 18]⟩]) (kw := 20) (G0 := G) (Γ0 := [(b99, .cells #[.int .i64 t95.1.f0, .int .i64 t95.1.f1, .int .i64 t95.1.f2, .int .i64 t95.1.f3, .string t95.1.f4] 36 (0, 0))] :: [(bR12, .cells #[mpv AR16p0_0, mpv AR16p0_1] 97 (0, 0))] :: CR16p0_0 :: CR16p0_1 :: Cs41 :: Γ) mo (by kernel_rfl) (fun hS => ?_)
                      refine WA.pure [0, 1, 2, 3] [0, 9, 12, 13, 14, 18, 21, 24, 25, 140] (m := 16) (b' := 15) (L' := [(0, .slice Al0 l0.length cl0), (9, .pointer (some ⟨bR12, 0, none⟩)), (12, .int .u64 t37.1), (13, .bool t37.2), (14, .slice As41 s41.length cs41), (18, .int .i64 y60), (21, .int .i64 t78.2), (24, .pointer (some ⟨b99, 0, none⟩)), (25, .bool t95.2), (140, .bool (t90.1 != t83))]) (by kernel_rfl) (NoPanic.then (NoPanic.block (NoPanic.then (NoPanic.then (NoPanic.block (NoPanic.then (NoPanic.then (NoPanic.body)))))))) Under.refl hS (by kernel_rfl) ?_
                      refine WA.split 140 (b := (t90.1 != t83)) (by kernel_rfl) (fun hc => ?_) (fun hc => ?_)
                      · replace hc := (bne_iff_ne.1 hc)
                        rw [if_pos hc] at h
                        have hc102 := hc
                        clear hc
                        refine WA.pure [4, 5, 6, 7, 8, 9, 10, 11, 12, 13, 14, 15, 16, 17, 18, 19] [0, 9, 12, 13, 14, 18, 156] (m := 0) (b' := 1048575) (L' := [(0, .slice Al0 l0.length cl0), (9, .pointer (some ⟨bR12, 0, none⟩)), (12, .int .u64 t37.1), (13, .bool t37.2), (14, .slice As41 s41.length cs41), (18, .int .i64 y60), (156, .bool true)]) (by kernel_rfl) (NoPanic.then (NoPanic.block (NoPanic.then (NoPanic.then (NoPanic.block (NoPanic.then (NoPanic.then (NoPanic.body)))))))) Under.refl hS (by kernel_rfl) ?_
                        refine WA.done hS (by kernel_rfl) ?_
                        refine QP.pick [0, 9, 12, 13, 14, 18, 156] ?_
                        refine QP.dropAt 0 ?_
                        refine QP.pick [0, 9, 12, 13, 14, 18, 156] ?_
                        exact QP.meet ⟨_, Option.some.inj h, rfl, rfl, rfl⟩
                      · replace hc := (not_not_intro (bne_eq_false_iff_eq.1 hc))
                        rw [if_neg hc] at h
                        have hc102 := hc
                        clear hc
                        refine WA.pure [4, 5, 6, 7, 8, 9] [0, 9, 12, 13, 14, 18, 24, 25, 146] (m := 10) (b' := 1023) (L' := [(0, .slice Al0 l0.length cl0), (9, .pointer (some ⟨bR12, 0, none⟩)), (12, .int .u64 t37.1), (13, .bool t37.2), (14, .slice As41 s41.length cs41), (18, .int .i64 y60), (24, .pointer (some ⟨b99, 0, none⟩)), (25, .bool t95.2), (146, .bool (!(t95.2 == (t78.2 == 0))))]) (by kernel_rfl) (NoPanic.then (NoPanic.block (NoPanic.then (NoPanic.then (NoPanic.block (NoPanic.then (NoPanic.then (NoPanic.body)))))))) Under.refl hS (by kernel_rfl) ?_
                        refine WA.split 146 (b := (!(t95.2 == (t78.2 == 0)))) (by kernel_rfl) (fun hc => ?_) (fun hc => ?_)
                        · replace hc := hc
                          rw [if_pos hc] at h
                          have hc103 := hc
                          clear hc
                          refine WA.pure [10, 11, 12, 13, 14, 15, 16, 17, 18, 19] [0, 9, 12, 13, 14, 18, 156] (m := 0) (b' := 1048575) (L' := [(0, .slice Al0 l0.length cl0), (9, .pointer (some ⟨bR12, 0, none⟩)), (12, .int .u64 t37.1), (13, .bool t37.2), (14, .slice As41 s41.length cs41), (18, .int .i64 y60), (156, .bool true)]) (by kernel_rfl) (NoPanic.then (NoPanic.block (NoPanic.then (NoPanic.then (NoPanic.block (NoPanic.then (NoPanic.then (NoPanic.body)))))))) Under.refl hS (by kernel_rfl) ?_
                          refine WA.done hS (by kernel_rfl) ?_
                          refine QP.pick [0, 9, 12, 13, 14, 18, 156] ?_
                          refine QP.dropAt 0 ?_
                          refine QP.pick [0, 9, 12, 13, 14, 18, 156] ?_
                          exact QP.meet ⟨_, Option.some.inj h, rfl, rfl, rfl⟩
                        · replace hc := (Bool.eq_false_iff.1 hc)
                          rw [if_neg hc] at h
                          have hc103 := hc
                          clear hc
                          refine WA.pure [10, 11] [0, 9, 12, 13, 14, 18, 24, 146, 148] (m := 8) (b' := 4095) (L' := [(0, .slice Al0 l0.length cl0), (9, .pointer (some ⟨bR12, 0, none⟩)), (12, .int .u64 t37.1), (13, .bool t37.2), (14, .slice As41 s41.length cs41), (18, .int .i64 y60), (24, .pointer (some ⟨b99, 0, none⟩)), (146, .bool false), (148, .bool t95.2)]) (by kernel_rfl) (NoPanic.then (NoPanic.block (NoPanic.then (NoPanic.then (NoPanic.block (NoPanic.then (NoPanic.then (NoPanic.body)))))))) Under.refl hS (by kernel_rfl) ?_
                          refine WA.split 148 (b := t95.2) (by kernel_rfl) (fun hc => ?_) (fun hc => ?_)
                          · replace hc := hc
                            rw [if_pos hc] at h
                            have hc104 := hc
                            clear hc
                            refine WA.pure [13, 14] [0, 9, 12, 13, 14, 18, 24, 146, 148, 150, 151] (m := 6) (b' := 28671) (L' := [(0, .slice Al0 l0.length cl0), (9, .pointer (some ⟨bR12, 0, none⟩)), (12, .int .u64 t37.1), (13, .bool t37.2), (14, .slice As41 s41.length cs41), (18, .int .i64 y60), (24, .pointer (some ⟨b99, 0, none⟩)), (146, .bool false), (148, .bool true), (150, .slice Al0 l0.length cl0), (151, .int .i64 y60)]) (by kernel_rfl) (NoPanic.then (NoPanic.block (NoPanic.then (NoPanic.then (NoPanic.block (NoPanic.then (NoPanic.then (NoPanic.body)))))))) Under.refl hS (by kernel_rfl) ?_
                            refine WA.tellD [] (i := 12) (m := 5) (b' := 32767) (by kernel_rfl) (NoPanic.then (NoPanic.block (NoPanic.then (NoPanic.then (NoPanic.block (NoPanic.then (NoPanic.then (NoPanic.body)))))))) Under.refl hS (by kernel_rfl) (op := .load 36 (.tmp 24)) (ty := 36) (d := some 149) (g := some (11, true)) (by kernel_rfl) (by kernel_rfl) (by kernel_rfl) (Tells.load_box (i := 0) (b := b99) (o := 0) (agg := true) (by rfl) ag36 (by kernel_rfl) (fun h => by cases h) (Nat.le_of_ble_eq_true rfl) (v := .agg #[.int .i64 t95.1.f0, .int .i64 t95.1.f1, .int .i64 t95.1.f2, .int .i64 t95.1.f3, .string t95.1.f4]) (by kernel_rfl)) ?_
                            by_cases hb105 : 0 ≤ y60 ∧ y60 < (l0.length : Int)
                            case neg => rw [if_neg hb105] at h; cases h
                            rw [if_pos hb105] at h
                            refine WA.tellD [] (i := 15) (m := 4) (b' := 65535) (by kernel_rfl) (NoPanic.then (NoPanic.block (NoPanic.then (NoPanic.then (NoPanic.block (NoPanic.then (NoPanic.then (NoPanic.body)))))))) Under.refl hS (by kernel_rfl) (op := .indexAddr 28 (.tmp 150) (.tmp 151)) (ty := 0) (d := some 152) (g := some (11, true)) (by kernel_rfl) (by kernel_rfl) (by kernel_rfl) (Tells.indexAddr (A := Al0) (n := l0.length) (c := cl0) (k := .i64) (j := y60) (by kernel_rfl) (by kernel_rfl) (Hl0.isSome hb105.1 hb105.2) hb105.1 hb105.2 sl28) ?_
                            refine WA.tellDE [] (i := 16) (m := 3) (b' := 131071) (by kernel_rfl) (NoPanic.then (NoPanic.block (NoPanic.then (NoPanic.then (NoPanic.block (NoPanic.then (NoPanic.then (NoPanic.body)))))))) Under.refl hS (by kernel_rfl) (op := .load 36 (.tmp 152)) (ty := 36) (d := some 153) (g := some (11, true)) (by kernel_rfl) (by kernel_rfl) (by kernel_rfl) (Hl0.load (agg := true) hb105.1 hb105.2 z36 ag36 (fun h => by cases h) (by kernel_rfl)) ?_
                            rintro _ rfl
                            refine WA.tellD [] (i := 17) (m := 2) (b' := 262143) (by kernel_rfl) (NoPanic.then (NoPanic.block (NoPanic.then (NoPanic.then (NoPanic.block (NoPanic.then (NoPanic.then (NoPanic.body)))))))) Under.refl hS (by kernel_rfl) (op := .binOp .neq 36 (.tmp 149) (.tmp 153) 36) (ty := 4) (d := some 154) (g := some (11, true)) (by kernel_rfl) (by kernel_rfl) (by kernel_rfl) (Tells.neAgg (xs := #[.int .i64 t95.1.f0, .int .i64 t95.1.f1, .int .i64 t95.1.f2, .int .i64 t95.1.f3, .string t95.1.f4]) (ys := #[.int .i64 ((l0.getD y60.toNat z36).f0), .int .i64 ((l0.getD y60.toNat z36).f1), .int .i64 ((l0.getD y60.toNat z36).f2), .int .i64 ((l0.getD y60.toNat z36).f3), .string ((l0.getD y60.toNat z36).f4)]) (ls := [.int t95.1.f0 ((l0.getD y60.toNat z36).f0), .int t95.1.f1 ((l0.getD y60.toNat z36).f1), .int t95.1.f2 ((l0.getD y60.toNat z36).f2), .int t95.1.f3 ((l0.getD y60.toNat z36).f3), .str t95.1.f4 ((l0.getD y60.toNat z36).f4)]) (by kernel_rfl) (by kernel_rfl) (by kernel_rfl) eg36) ?_
                            refine WA.reput 154 (v := .bool (!([.int t95.1.f0 ((l0.getD y60.toNat z36).f0), .int t95.1.f1 ((l0.getD y60.toNat z36).f1), .int t95.1.f2 ((l0.getD y60.toNat z36).f2), .int t95.1.f3 ((l0.getD y60.toNat z36).f3), .str t95.1.f4 ((l0.getD y60.toNat z36).f4)].all Lf.ok))) (v' := .bool (!decide (t95.1 = (l0.getD y60.toNat z36)))) (by kernel_rfl) (by exact (congrArg (fun z => Value.bool (!z)) (eqT36 t95.1 (l0.getD y60.toNat z36)))) ?_
                            refine WA.pure [18, 19] [0, 9, 12, 13, 14, 18, 156] (m := 0) (b' := 1048575) (L' := [(0, .slice Al0 l0.length cl0), (9, .pointer (some ⟨bR12, 0, none⟩)), (12, .int .u64 t37.1), (13, .bool t37.2), (14, .slice As41 s41.length cs41), (18, .int .i64 y60), (156, .bool (!decide (t95.1 = (l0.getD y60.toNat z36))))]) (by kernel_rfl) (NoPanic.then (NoPanic.block (NoPanic.then (NoPanic.then (NoPanic.block (NoPanic.then (NoPanic.then (NoPanic.body)))))))) Under.refl hS (by kernel_rfl) ?_
                            refine WA.done hS (by kernel_rfl) ?_
                            refine QP.pick [0, 9, 12, 13, 14, 18, 156] ?_
                            refine QP.dropAt 0 ?_
                            refine QP.pick [0, 9, 12, 13, 14, 18, 156] ?_
                            exact QP.meet ⟨_, Option.some.inj h, rfl, rfl, rfl⟩
                          · replace hc := (Bool.eq_false_iff.1 hc)
                            rw [if_neg hc] at h
                            have hc104 := hc
                            clear hc
                            refine WA.pure [12, 13, 14, 15, 16, 17, 18, 19] [0, 9, 12, 13, 14, 18, 156] (m := 0) (b' := 1048575) (L' := [(0, .slice Al0 l0.length cl0), (9, .pointer (some ⟨bR12, 0, none⟩)), (12, .int .u64 t37.1), (13, .bool t37.2), (14, .slice As41 s41.length cs41), (18, .int .i64 y60), (156, .bool false)]) (by kernel_rfl) (NoPanic.then (NoPanic.block (NoPanic.then (NoPanic.then (NoPanic.block (NoPanic.then (NoPanic.then (NoPanic.body)))))))) Under.refl hS (by kernel_rfl) ?_
                            refine WA.done hS (by kernel_rfl) ?_
                            refine QP.pick [0, 9, 12, 13, 14, 18, 156] ?_
                            refine QP.dropAt 0 ?_
                            refine QP.pick [0, 9, 12, 13, 14, 18, 156] ?_
                            exact QP.meet ⟨_, Option.some.inj h, rfl, rfl, rfl⟩
                    · rintro _ _ _ ⟨s100, rfl, rfl, rfl, rfl⟩
                      clear h
                      replace h := hk101
                      refine WP.cond (b := s100) (by kernel_rfl) (fun hc => ?_) (fun hc => ?_)
                      · replace hc := hc
                        rw [if_pos hc] at h
                        have hc106 := hc
                        clear hc
                        refine WP.seqP [8] (L' := [(8, .bool false)]) (by kernel_rfl) ?_
                        refine WP.dropAt 3 ?_
                        refine WP.dropAt 2 ?_
                        refine WP.dropAt 1 ?_
                        refine WP.dropAt 0 ?_
                        refine WP.ret ?_
                        refine QP.blockR ?_
                        refine QP.thenR ?_
                        refine QP.thenR ?_
                        refine QP.blockR ?_
                        refine QP.thenR ?_
                        refine QP.thenR ?_
                        obtain rfl := Option.some.inj h
                        obtain rfl := Option.some.inj (show some _ = some _ from hk59)
                        exact QP.returned [8] [.bool false] _ (by kernel_rfl) (by kernel_rfl) (by kernel_rfl) (fun W hI => ⟨_, _, _, rfl, ⟨rfl, rfl, rfl⟩, hI⟩)
                      · replace hc := (Bool.eq_false_iff.1 hc)
                        rw [if_neg hc] at h
                        have hc106 := hc
                        clear hc
                        refine WP.skip ?_
                        refine QP.blockN ?_
                        refine QP.next ?_
                        refine WP.pick [0, 9, 12, 13, 14, 18] ?_
                        refine WP.regionP [0, 9, 12, 13, 14, 18] (L' := [(0, .slice Al0 l0.length cl0), (9, .pointer (some ⟨bR12, 0, none⟩)), (12, .int .u64 t37.1), (13, .bool t37.2), (14, .slice As41 s41.length cs41), (18, .int .i64 (IntKind.i64.wrap (y60 + 1)))]) (by kernel_rfl) ?_
                        refine QP.front (i := 2) rfl ?_
                        refine QP.front (i := 2) rfl ?_
                        refine QP.front (i := 2) rfl ?_
                        refine QP.front (i := 3) rfl ?_
                        refine QP.pick [0, 9, 12, 13, 14, 18] ?_
                        exact QP.meet ⟨kn62, Nat.lt_succ_self _, (IntKind.i64.wrap (y60 + 1)), h, rfl, rfl, rfl⟩
                  · replace hc := ne_of_beq_false hc
                    rw [if_neg hc] at h
                    have hc82 := hc
                    clear hc
                    refine WP.skip ?_
                    refine QP.next ?_
                    refine WP.pick [0, 9, 12, 13, 14, 18, 19, 21] ?_
                    refine WP.seq ?_
                    refine WP.any (N := 19) (S := [⟨some 111, [9], []⟩, ⟨some 112, [0], []⟩, ⟨some 113, [18], []⟩, ⟨some 114, [112, 113], [1, 2]⟩, ⟨some 115, [114], [3]⟩, ⟨some 116, [115], [4]⟩, ⟨some 117, [116], [5]⟩, ⟨some 118, [0], []⟩, ⟨some 119, [18], []⟩, ⟨some 120, [118, 119], [7, 8]⟩, ⟨some 121, [120], [9]⟩, ⟨some 122, [121], [10]⟩, ⟨some 123, [122], [11]⟩, ⟨some 124, [111, 117, 123], [0, 6, 12]⟩, ⟨some 110, [124], [13]⟩, ⟨some 125, [110], [14]⟩, ⟨some 126, [110], [14]⟩, ⟨some 22, [125], [0, 1, 2, 3, 4, 5, 6, 7, 8, 9, 10, 11, 12, 13, 14, 15]⟩, ⟨some 23, [126], [0, 1, 2, 3, 4, 5, 6, 7, 8, 9, 10, 11, 12, 13, 14, 15, 16, 17]⟩]) (kw := 19) (G0 := G) (Γ0 := CR800 :: Cs41 :: [(bR12, .cells #[mpv AR16p0_0, mpv AR16p0_1] 97 (0, 0))] :: CR16p0_0 :: CR16p0_1 :: Γ) mo (by kernel_rfl) (fun hS => ?_)
                    refine WA.pure [0, 1, 2, 7, 8] [0, 9, 12, 13, 14, 18, 19, 21, 111, 112, 113, 118, 119] (m := 14) (b' := 391) (L' := [(0, .slice Al0 l0.length cl0), (9, .pointer (some ⟨bR12, 0, none⟩)), (12, .int .u64 t37.1), (13, .bool t37.2), (14, .slice As41 s41.length cs41), (18, .int .i64 y60), (19, .int .u64 0), (21, .int .i64 t78.2), (111, .pointer (some ⟨bR12, 0, none⟩)), (112, .slice Al0 l0.length cl0), (113, .int .i64 y60), (118, .slice Al0 l0.length cl0), (119, .int .i64 y60)]) (by kernel_rfl) (NoPanic.then (NoPanic.block (NoPanic.then (NoPanic.then (NoPanic.block (NoPanic.then (NoPanic.then (NoPanic.body)))))))) Under.refl hS (by kernel_rfl) ?_
                    by_cases hb107 : 0 ≤ y60 ∧ y60 < (l0.length : Int)
                    case neg => rw [if_neg hb107] at h; cases h
                    rw [if_pos hb107] at h
                    refine WA.tellD [] (i := 3) (m := 13) (b' := 399) (by kernel_rfl) (NoPanic.then (NoPanic.block (NoPanic.then (NoPanic.then (NoPanic.block (NoPanic.then (NoPanic.then (NoPanic.body)))))))) Under.refl hS (by kernel_rfl) (op := .indexAddr 28 (.tmp 112) (.tmp 113)) (ty := 0) (d := some 114) (g := none) (by kernel_rfl) (by kernel_rfl) (by kernel_rfl) (Tells.indexAddr (A := Al0) (n := l0.length) (c := cl0) (k := .i64) (j := y60) (by kernel_rfl) (by kernel_rfl) (Hl0.isSome hb107.1 hb107.2) hb107.1 hb107.2 sl28) ?_
                    refine WA.tellD [] (i := 4) (m := 12) (b' := 415) (by kernel_rfl) (NoPanic.then (NoPanic.block (NoPanic.then (NoPanic.then (NoPanic.block (NoPanic.then (NoPanic.then (NoPanic.body)))))))) Under.refl hS (by kernel_rfl) (op := .fieldAddr 36 (.tmp 114) 0) (ty := 0) (d := some 115) (g := none) (by kernel_rfl) (by kernel_rfl) (by kernel_rfl) (Tells.fieldElem (m := y60.toNat * 5) (A := Al0) (by kernel_rfl) (Hl0.isSome hb107.1 hb107.2) fi36_0) ?_
                    refine WA.tellD [] (i := 5) (m := 11) (b' := 447) (by kernel_rfl) (NoPanic.then (NoPanic.block (NoPanic.then (NoPanic.then (NoPanic.block (NoPanic.then (NoPanic.then (NoPanic.body)))))))) Under.refl hS (by kernel_rfl) (op := .fieldAddr 32 (.tmp 115) 0) (ty := 0) (d := some 116) (g := none) (by kernel_rfl) (by kernel_rfl) (by kernel_rfl) (Tells.fieldElem (m := y60.toNat * 5 + 0) (A := Al0) (by kernel_rfl) (Hl0.isSome hb107.1 hb107.2) fi32_0) ?_
                    refine WA.tellDE [] (i := 6) (m := 10) (b' := 511) (by kernel_rfl) (NoPanic.then (NoPanic.block (NoPanic.then (NoPanic.then (NoPanic.block (NoPanic.then (NoPanic.then (NoPanic.body)))))))) Under.refl hS (by kernel_rfl) (op := .load 3 (.tmp 116)) (ty := 3) (d := some 117) (g := none) (by kernel_rfl) (by kernel_rfl) (by kernel_rfl) (Hl0.loadF (agg := false) (off := 0) hb107.1 hb107.2 z36 ag3 (fun _ => rfl) (by decide) (by kernel_rfl)) ?_
                    rintro _ rfl
                    by_cases hb108 : 0 ≤ y60 ∧ y60 < (l0.length : Int)
                    case neg => rw [if_neg hb108] at h; cases h
                    rw [if_pos hb108] at h
                    refine WA.tellD [] (i := 9) (m := 9) (b' := 1023) (by kernel_rfl) (NoPanic.then (NoPanic.block (NoPanic.then (NoPanic.then (NoPanic.block (NoPanic.then (NoPanic.then (NoPanic.body)))))))) Under.refl hS (by kernel_rfl) (op := .indexAddr 28 (.tmp 118) (.tmp 119)) (ty := 0) (d := some 120) (g := none) (by kernel_rfl) (by kernel_rfl) (by kernel_rfl) (Tells.indexAddr (A := Al0) (n := l0.length) (c := cl0) (k := .i64) (j := y60) (by kernel_rfl) (by kernel_rfl) (Hl0.isSome hb108.1 hb108.2) hb108.1 hb108.2 sl28) ?_
                    refine WA.tellD [] (i := 10) (m := 8) (b' := 2047) (by kernel_rfl) (NoPanic.then (NoPanic.block (NoPanic.then (NoPanic.then (NoPanic.block (NoPanic.then (NoPanic.then (NoPanic.body)))))))) Under.refl hS (by kernel_rfl) (op := .fieldAddr 36 (.tmp 120) 0) (ty := 0) (d := some 121) (g := none) (by kernel_rfl) (by kernel_rfl) (by kernel_rfl) (Tells.fieldElem (m := y60.toNat * 5) (A := Al0) (by kernel_rfl) (Hl0.isSome hb108.1 hb108.2) fi36_0) ?_
                    refine WA.tellD [] (i := 11) (m := 7) (b' := 4095) (by kernel_rfl) (NoPanic.then (NoPanic.block (NoPanic.then (NoPanic.then (NoPanic.block (NoPanic.then (NoPanic.then (NoPanic.body)))))))) Under.refl hS (by kernel_rfl) (op := .fieldAddr 32 (.tmp 121) 1) (ty := 0) (d := some 122) (g := none) (by kernel_rfl) (by kernel_rfl) (by kernel_rfl) (Tells.fieldElem (m := y60.toNat * 5 + 0) (A := Al0) (by kernel_rfl) (Hl0.isSome hb108.1 hb108.2) fi32_1) ?_
                    refine WA.tellDE [] (i := 12) (m := 6) (b' := 8191) (by kernel_rfl) (NoPanic.then (NoPanic.block (NoPanic.then (NoPanic.then (NoPanic.block (NoPanic.then (NoPanic.then (NoPanic.body)))))))) Under.refl hS (by kernel_rfl) (op := .load 3 (.tmp 122)) (ty := 3) (d := some 123) (g := none) (by kernel_rfl) (by kernel_rfl) (by kernel_rfl) (Hl0.loadF (agg := false) (off := 1) hb108.1 hb108.2 z36 ag3 (fun _ => rfl) (by decide) (by kernel_rfl)) ?_
                    rintro _ rfl
                    refine WA.front (i := 4) rfl ?_
                    refine WA.front (i := 4) rfl ?_
                    refine WA.front (i := 4) rfl ?_
                    rw [Option.bind_eq_some_iff] at h
                    obtain ⟨t109, ht110, h⟩ := h
                    refine WA.op (i := 13) (m := 5) (b' := 16383) (by kernel_rfl) hS (by kernel_rfl) (op := .call { callee := (.value (.func 19)), args := #[(.tmp 111), (.tmp 117), (.const (.int .i64 5)), (.tmp 123)], argTypes := #[25, 3, 3, 3] }) (ty := 45) (d := some 124) (g := none) (by kernel_rfl) (by kernel_rfl) (by kernel_rfl) (Does.call (f := 19) (args := [.pointer (some ⟨bR12, 0, none⟩), .int .i64 ((l0.getD y60.toNat z36).f0), .int .i64 5, .int .i64 ((l0.getD y60.toNat z36).f1)]) (by kernel_rfl) (fun W hI => (tree_Tree_Sum_calls kn62 t14.2 ((l0.getD y60.toNat z36).f0) 5 ((l0.getD y60.toNat z36).f1) bR12 AR16p0_0 cR16p0_0 CR16p0_0 HR16p0_0 AR16p0_1 cR16p0_1 CR16p0_1 HR16p0_1 t109 ht110 hI))) ?_
                    rintro _ _ _ ⟨rfl, rfl, rfl⟩
                    refine ⟨_, _, (Under.trans (Under.front (i := 4) rfl (Under.front (i := 4) rfl (Under.front (i := 4) rfl (Under.refl)))) (Under.refl)), Under.refl, ?_⟩
                    refine WA.pure [14, 15, 16, 17, 18] [0, 9, 12, 13, 14, 18, 19, 21, 22] (m := 0) (b' := 524287) (L' := [(0, .slice Al0 l0.length cl0), (9, .pointer (some ⟨bR12, 0, none⟩)), (12, .int .u64 t37.1), (13, .bool t37.2), (14, .slice As41 s41.length cs41), (18, .int .i64 y60), (19, .int .u64 0), (21, .int .i64 t78.2), (22, .int .u64 t109.1)]) (by kernel_rfl) (NoPanic.then (NoPanic.block (NoPanic.then (NoPanic.then (NoPanic.block (NoPanic.then (NoPanic.then (NoPanic.body)))))))) Under.refl hS (by kernel_rfl) ?_
                    refine WA.done hS (by kernel_rfl) ?_
                    refine QP.pick [0, 9, 12, 13, 14, 18, 19, 21, 22] ?_
                    refine QP.next ?_
                    refine WP.dropAt 3 ?_
                    refine WP.seqR ?_
                    refine WL.pure 0 3 [0, 9, 12, 13, 14, 18, 19, 21, 22, 128, 129, 130] (L' := [(0, .slice Al0 l0.length cl0), (9, .pointer (some ⟨bR12, 0, none⟩)), (12, .int .u64 t37.1), (13, .bool t37.2), (14, .slice As41 s41.length cs41), (18, .int .i64 y60), (19, .int .u64 0), (21, .int .i64 t78.2), (22, .int .u64 t109.1), (128, .pointer (some ⟨bR12, 0, none⟩)), (129, .slice Al0 l0.length cl0), (130, .int .i64 y60)]) (by kernel_rfl) (by decide) ?_
                    by_cases hb113 : 0 ≤ y60 ∧ y60 < (l0.length : Int)
                    case neg => rw [if_neg hb113] at h; cases h
                    rw [if_pos hb113] at h
                    refine WL.tell (op := .indexAddr 28 (.tmp 129) (.tmp 130)) (ty := 0) (d := some 131) (g := none) (by kernel_rfl) (by kernel_rfl) (by kernel_rfl) (Tells.indexAddr (A := Al0) (n := l0.length) (c := cl0) (k := .i64) (j := y60) (by kernel_rfl) (by kernel_rfl) (Hl0.isSome hb113.1 hb113.2) hb113.1 hb113.2 sl28) ?_
                    refine WL.tell (op := .fieldAddr 36 (.tmp 131) 0) (ty := 0) (d := some 132) (g := none) (by kernel_rfl) (by kernel_rfl) (by kernel_rfl) (Tells.fieldElem (m := y60.toNat * 5) (A := Al0) (by kernel_rfl) (Hl0.isSome hb113.1 hb113.2) fi36_0) ?_
                    refine WL.tellE (op := .load 32 (.tmp 132)) (ty := 32) (d := some 133) (g := none) (by kernel_rfl) (by kernel_rfl) (by kernel_rfl) (Hl0.loadF (agg := true) (off := 0) hb113.1 hb113.2 z36 ag32 (fun h => by cases h) (by decide) (by kernel_rfl)) ?_
                    rintro _ rfl
                    refine WL.front (i := 2) rfl ?_
                    refine WL.front (i := 2) rfl ?_
                    refine WL.front (i := 2) rfl ?_
                    rw [Option.bind_eq_some_iff] at h
                    obtain ⟨t114, ht115, h⟩ := h
                    refine WL.op (op := .call { callee := (.value (.func 31)), args := #[(.tmp 128), (.tmp 133)], argTypes := #[25, 32] }) (ty := 59) (d := some 134) (g := none) (by kernel_rfl) (by kernel_rfl) (by kernel_rfl) (Does.call (f := 31) (args := [.pointer (some ⟨bR12, 0, none⟩), .agg #[.int .i64 ((l0.getD y60.toNat z36).f0), .int .i64 ((l0.getD y60.toNat z36).f1)]]) (by kernel_rfl) (fun W hI => (tree_Tree_Get_calls t14.2 (⟨(l0.getD y60.toNat z36).f0, (l0.getD y60.toNat z36).f1⟩ : T32) bR12 AR16p0_0 cR16p0_0 CR16p0_0 HR16p0_0 AR16p0_1 cR16p0_1 CR16p0_1 HR16p0_1 t114 ht115 hI))) ?_
                    rintro _ _ _ ⟨rfl, rfl, rfl⟩
                    refine WL.pure 7 10 [0, 9, 12, 13, 14, 18, 19, 21, 22, 135, 136] (L' := [(0, .slice Al0 l0.length cl0), (9, .pointer (some ⟨bR12, 0, none⟩)), (12, .int .u64 t37.1), (13, .bool t37.2), (14, .slice As41 s41.length cs41), (18, .int .i64 y60), (19, .int .u64 0), (21, .int .i64 t78.2), (22, .int .u64 t109.1), (135, .agg #[.int .i64 t114.1.f0, .int .i64 t114.1.f1, .int .i64 t114.1.f2, .int .i64 t114.1.f3, .string t114.1.f4]), (136, .bool t114.2)]) (by kernel_rfl) (by decide) ?_
                    refine WL.op (op := .alloc 36) (ty := 0) (d := some 24) (g := none) (by kernel_rfl) (by kernel_rfl) (by kernel_rfl) (Does.new (o := .cells #[.int .i64 0, .int .i64 0, .int .i64 0, .int .i64 0, .string (⟨#[]⟩ : ByteArray)] 36 (0, 0)) (v := fun r => .pointer (some ⟨r, 0, none⟩)) (fun r => by kernel_rfl)) ?_
                    rintro _ _ _ ⟨b118, rfl, rfl, rfl⟩
                    refine WL.op (op := .store 36 (.tmp 24) (.tmp 135)) (ty := 0) (d := none) (g := none) (by kernel_rfl) (by kernel_rfl) (by kernel_rfl) (Does.store_box (i := 0) (b := b118) (o := 0) (v := .agg #[.int .i64 t114.1.f0, .int .i64 t114.1.f1, .int .i64 t114.1.f2, .int .i64 t114.1.f3, .string t114.1.f4]) (by rfl) sz36 (by kernel_rfl) (by kernel_rfl) (by kernel_rfl) (Free.zero _) (Nat.le_of_ble_eq_true rfl) (cells' := #[.int .i64 t114.1.f0, .int .i64 t114.1.f1, .int .i64 t114.1.f2, .int .i64 t114.1.f3, .string t114.1.f4]) (by kernel_rfl)) ?_
                    rintro _ _ _ ⟨rfl, rfl, rfl⟩
                    refine WL.restQ 12 [0, 9, 12, 13, 14, 18, 19, 21, 22, 24, 25] (L' := [(0, .slice Al0 l0.length cl0), (9, .pointer (some ⟨bR12, 0, none⟩)), (12, .int .u64 t37.1), (13, .bool t37.2), (14, .slice As41 s41.length cs41), (18, .int .i64 y60), (19, .int .u64 0), (21, .int .i64 t78.2), (22, .int .u64 t109.1), (24, .pointer (some ⟨b118, 0, none⟩)), (25, .bool t114.2)]) (by kernel_rfl) ?_
                    rw [Option.bind_eq_some_iff] at h
                    obtain ⟨os119, h, hk120⟩ := h
                    refine WP.cut (fun L' G' Γ' => ∃ s119 : Bool, s119 = os119 ∧ L' = [(0, .slice Al0 l0.length cl0), (9, .pointer (some ⟨bR12, 0, none⟩)), (12, .int .u64 t37.1), (13, .bool t37.2), (14, .slice As41 s41.length cs41), (18, .int .i64 y60), (156, .bool s119)] ∧ G = G' ∧ [(bR12, .cells #[mpv AR16p0_0, mpv AR16p0_1] 97 (0, 0))] :: CR16p0_0 :: CR16p0_1 :: Cs41 :: Γ = Γ') ?_ ?_
                    · clear hk120
                      skip
                      refine WP.any (N := 20) (S := [⟨some 137, [22], []⟩, ⟨some 138, [19], []⟩, ⟨some 139, [137, 138], [0, 1]⟩, ⟨some 140, [139], [2]⟩, ⟨some 141, [25, 140], [3]⟩, ⟨some 142, [21, 140], [3]⟩, ⟨some 143, [140, 142], [3, 5]⟩, ⟨some 144, [140, 141, 143], [3, 4, 6]⟩, ⟨some 145, [140, 144], [3, 7]⟩, ⟨some 146, [145], [3, 8]⟩, ⟨some 147, [25, 146], [9]⟩, ⟨some 148, [146, 147], [9, 10]⟩, ⟨some 149, [24, 148], [11]⟩, ⟨some 150, [0, 148], [11]⟩, ⟨some 151, [18, 148], [11]⟩, ⟨some 152, [148, 150, 151], [11, 13, 14]⟩, ⟨some 153, [148, 152], [11, 15]⟩, ⟨some 154, [148, 149, 153], [11, 12, 16]⟩, ⟨some 155, [146, 148, 154], [9, 11, 17]⟩, ⟨some 156, [146, 155], [9, 18]⟩]) (kw := 20) (G0 := G) (Γ0 := [(b118, .cells #[.int .i64 t114.1.f0, .int .i64 t114.1.f1, .int .i64 t114.1.f2, .int .i64 t114.1.f3, .string t114.1.f4] 36 (0, 0))] :: [(bR12, .cells #[mpv AR16p0_0, mpv AR16p0_1] 97 (0, 0))] :: CR16p0_0 :: CR16p0_1 :: Cs41 :: Γ) mo (by kernel_rfl) (fun hS => ?_)
                      refine WA.pure [0, 1, 2, 3] [0, 9, 12, 13, 14, 18, 21, 24, 25, 140] (m := 16) (b' := 15) (L' := [(0, .slice Al0 l0.length cl0), (9, .pointer (some ⟨bR12, 0, none⟩)), (12, .int .u64 t37.1), (13, .bool t37.2), (14, .slice As41 s41.length cs41), (18, .int .i64 y60), (21, .int .i64 t78.2), (24, .pointer (some ⟨b118, 0, none⟩)), (25, .bool t114.2), (140, .bool (t109.1 != 0))]) (by kernel_rfl) (NoPanic.then (NoPanic.block (NoPanic.then (NoPanic.then (NoPanic.block (NoPanic.then (NoPanic.then (NoPanic.body)))))))) Under.refl hS (by kernel_rfl) ?_
                      refine WA.split 140 (b := (t109.1 != 0)) (by kernel_rfl) (fun hc => ?_) (fun hc => ?_)
                      · replace hc := (bne_iff_ne.1 hc)
                        rw [if_pos hc] at h
                        have hc121 := hc
                        clear hc
                        refine WA.pure [4, 5, 6, 7, 8, 9, 10, 11, 12, 13, 14, 15, 16, 17, 18, 19] [0, 9, 12, 13, 14, 18, 156] (m := 0) (b' := 1048575) (L' := [(0, .slice Al0 l0.length cl0), (9, .pointer (some ⟨bR12, 0, none⟩)), (12, .int .u64 t37.1), (13, .bool t37.2), (14, .slice As41 s41.length cs41), (18, .int .i64 y60), (156, .bool true)]) (by kernel_rfl) (NoPanic.then (NoPanic.block (NoPanic.then (NoPanic.then (NoPanic.block (NoPanic.then (NoPanic.then (NoPanic.body)))))))) Under.refl hS (by kernel_rfl) ?_
                        refine WA.done hS (by kernel_rfl) ?_
                        refine QP.pick [0, 9, 12, 13, 14, 18, 156] ?_
                        refine QP.dropAt 0 ?_
                        refine QP.pick [0, 9, 12, 13, 14, 18, 156] ?_
                        exact QP.meet ⟨_, Option.some.inj h, rfl, rfl, rfl⟩
                      · replace hc := (not_not_intro (bne_eq_false_iff_eq.1 hc))
                        rw [if_neg hc] at h
                        have hc121 := hc
                        clear hc
                        refine WA.pure [4, 5, 6, 7, 8, 9] [0, 9, 12, 13, 14, 18, 24, 25, 146] (m := 10) (b' := 1023) (L' := [(0, .slice Al0 l0.length cl0), (9, .pointer (some ⟨bR12, 0, none⟩)), (12, .int .u64 t37.1), (13, .bool t37.2), (14, .slice As41 s41.length cs41), (18, .int .i64 y60), (24, .pointer (some ⟨b118, 0, none⟩)), (25, .bool t114.2), (146, .bool (!(t114.2 == (t78.2 == 0))))]) (by kernel_rfl) (NoPanic.then (NoPanic.block (NoPanic.then (NoPanic.then (NoPanic.block (NoPanic.then (NoPanic.then (NoPanic.body)))))))) Under.refl hS (by kernel_rfl) ?_
                        refine WA.split 146 (b := (!(t114.2 == (t78.2 == 0)))) (by kernel_rfl) (fun hc => ?_) (fun hc => ?_)
                        · replace hc := hc
                          rw [if_pos hc] at h
                          have hc122 := hc
                          clear hc
                          refine WA.pure [10, 11, 12, 13, 14, 15, 16, 17, 18, 19] [0, 9, 12, 13, 14, 18, 156] (m := 0) (b' := 1048575) (L' := [(0, .slice Al0 l0.length cl0), (9, .pointer (some ⟨bR12, 0, none⟩)), (12, .int .u64 t37.1), (13, .bool t37.2), (14, .slice As41 s41.length cs41), (18, .int .i64 y60), (156, .bool true)]) (by kernel_rfl) (NoPanic.then (NoPanic.block (NoPanic.then (NoPanic.then (NoPanic.block (NoPanic.then (NoPanic.then (NoPanic.body)))))))) Under.refl hS (by kernel_rfl) ?_
                          refine WA.done hS (by kernel_rfl) ?_
                          refine QP.pick [0, 9, 12, 13, 14, 18, 156] ?_
                          refine QP.dropAt 0 ?_
                          refine QP.pick [0, 9, 12, 13, 14, 18, 156] ?_
                          exact QP.meet ⟨_, Option.some.inj h, rfl, rfl, rfl⟩
                        · replace hc := (Bool.eq_false_iff.1 hc)
                          rw [if_neg hc] at h
                          have hc122 := hc
                          clear hc
                          refine WA.pure [10, 11] [0, 9, 12, 13, 14, 18, 24, 146, 148] (m := 8) (b' := 4095) (L' := [(0, .slice Al0 l0.length cl0), (9, .pointer (some ⟨bR12, 0, none⟩)), (12, .int .u64 t37.1), (13, .bool t37.2), (14, .slice As41 s41.length cs41), (18, .int .i64 y60), (24, .pointer (some ⟨b118, 0, none⟩)), (146, .bool false), (148, .bool t114.2)]) (by kernel_rfl) (NoPanic.then (NoPanic.block (NoPanic.then (NoPanic.then (NoPanic.block (NoPanic.then (NoPanic.then (NoPanic.body)))))))) Under.refl hS (by kernel_rfl) ?_
                          refine WA.split 148 (b := t114.2) (by kernel_rfl) (fun hc => ?_) (fun hc => ?_)
                          · replace hc := hc
                            rw [if_pos hc] at h
                            have hc123 := hc
                            clear hc
                            refine WA.pure [13, 14] [0, 9, 12, 13, 14, 18, 24, 146, 148, 150, 151] (m := 6) (b' := 28671) (L' := [(0, .slice Al0 l0.length cl0), (9, .pointer (some ⟨bR12, 0, none⟩)), (12, .int .u64 t37.1), (13, .bool t37.2), (14, .slice As41 s41.length cs41), (18, .int .i64 y60), (24, .pointer (some ⟨b118, 0, none⟩)), (146, .bool false), (148, .bool true), (150, .slice Al0 l0.length cl0), (151, .int .i64 y60)]) (by kernel_rfl) (NoPanic.then (NoPanic.block (NoPanic.then (NoPanic.then (NoPanic.block (NoPanic.then (NoPanic.then (NoPanic.body)))))))) Under.refl hS (by kernel_rfl) ?_
                            refine WA.tellD [] (i := 12) (m := 5) (b' := 32767) (by kernel_rfl) (NoPanic.then (NoPanic.block (NoPanic.then (NoPanic.then (NoPanic.block (NoPanic.then (NoPanic.then (NoPanic.body)))))))) Under.refl hS (by kernel_rfl) (op := .load 36 (.tmp 24)) (ty := 36) (d := some 149) (g := some (11, true)) (by kernel_rfl) (by kernel_rfl) (by kernel_rfl) (Tells.load_box (i := 0) (b := b118) (o := 0) (agg := true) (by rfl) ag36 (by kernel_rfl) (fun h => by cases h) (Nat.le_of_ble_eq_true rfl) (v := .agg #[.int .i64 t114.1.f0, .int .i64 t114.1.f1, .int .i64 t114.1.f2, .int .i64 t114.1.f3, .string t114.1.f4]) (by kernel_rfl)) ?_
                            by_cases hb124 : 0 ≤ y60 ∧ y60 < (l0.length : Int)
                            case neg => rw [if_neg hb124] at h; cases h
                            rw [if_pos hb124] at h
                            refine WA.tellD [] (i := 15) (m := 4) (b' := 65535) (by kernel_rfl) (NoPanic.then (NoPanic.block (NoPanic.then (NoPanic.then (NoPanic.block (NoPanic.then (NoPanic.then (NoPanic.body)))))))) Under.refl hS (by kernel_rfl) (op := .indexAddr 28 (.tmp 150) (.tmp 151)) (ty := 0) (d := some 152) (g := some (11, true)) (by kernel_rfl) (by kernel_rfl) (by kernel_rfl) (Tells.indexAddr (A := Al0) (n := l0.length) (c := cl0) (k := .i64) (j := y60) (by kernel_rfl) (by kernel_rfl) (Hl0.isSome hb124.1 hb124.2) hb124.1 hb124.2 sl28) ?_
                            refine WA.tellDE [] (i := 16) (m := 3) (b' := 131071) (by kernel_rfl) (NoPanic.then (NoPanic.block (NoPanic.then (NoPanic.then (NoPanic.block (NoPanic.then (NoPanic.then (NoPanic.body)))))))) Under.refl hS (by kernel_rfl) (op := .load 36 (.tmp 152)) (ty := 36) (d := some 153) (g := some (11, true)) (by kernel_rfl) (by kernel_rfl) (by kernel_rfl) (Hl0.load (agg := true) hb124.1 hb124.2 z36 ag36 (fun h => by cases h) (by kernel_rfl)) ?_
                            rintro _ rfl
                            refine WA.tellD [] (i := 17) (m := 2) (b' := 262143) (by kernel_rfl) (NoPanic.then (NoPanic.block (NoPanic.then (NoPanic.then (NoPanic.block (NoPanic.then (NoPanic.then (NoPanic.body)))))))) Under.refl hS (by kernel_rfl) (op := .binOp .neq 36 (.tmp 149) (.tmp 153) 36) (ty := 4) (d := some 154) (g := some (11, true)) (by kernel_rfl) (by kernel_rfl) (by kernel_rfl) (Tells.neAgg (xs := #[.int .i64 t114.1.f0, .int .i64 t114.1.f1, .int .i64 t114.1.f2, .int .i64 t114.1.f3, .string t114.1.f4]) (ys := #[.int .i64 ((l0.getD y60.toNat z36).f0), .int .i64 ((l0.getD y60.toNat z36).f1), .int .i64 ((l0.getD y60.toNat z36).f2), .int .i64 ((l0.getD y60.toNat z36).f3), .string ((l0.getD y60.toNat z36).f4)]) (ls := [.int t114.1.f0 ((l0.getD y60.toNat z36).f0), .int t114.1.f1 ((l0.getD y60.toNat z36).f1), .int t114.1.f2 ((l0.getD y60.toNat z36).f2), .int t114.1.f3 ((l0.getD y60.toNat z36).f3), .str t114.1.f4 ((l0.getD y60.toNat z36).f4)]) (by kernel_rfl) (by kernel_rfl) (by kernel_rfl) eg36) ?_
                            refine WA.reput 154 (v := .bool (!([.int t114.1.f0 ((l0.getD y60.toNat z36).f0), .int t114.1.f1 ((l0.getD y60.toNat z36).f1), .int t114.1.f2 ((l0.getD y60.toNat z36).f2), .int t114.1.f3 ((l0.getD y60.toNat z36).f3), .str t114.1.f4 ((l0.getD y60.toNat z36).f4)].all Lf.ok))) (v' := .bool (!decide (t114.1 = (l0.getD y60.toNat z36)))) (by kernel_rfl) (by exact (congrArg (fun z => Value.bool (!z)) (eqT36 t114.1 (l0.getD y60.toNat z36)))) ?_
                            refine WA.pure [18, 19] [0, 9, 12, 13, 14, 18, 156] (m := 0) (b' := 1048575) (L' := [(0, .slice Al0 l0.length cl0), (9, .pointer (some ⟨bR12, 0, none⟩)), (12, .int .u64 t37.1), (13, .bool t37.2), (14, .slice As41 s41.length cs41), (18, .int .i64 y60), (156, .bool (!decide (t114.1 = (l0.getD y60.toNat z36))))]) (by kernel_rfl) (NoPanic.then (NoPanic.block (NoPanic.then (NoPanic.then (NoPanic.block (NoPanic.then (NoPanic.then (NoPanic.body)))))))) Under.refl hS (by kernel_rfl) ?_
                            refine WA.done hS (by kernel_rfl) ?_
                            refine QP.pick [0, 9, 12, 13, 14, 18, 156] ?_
                            refine QP.dropAt 0 ?_
                            refine QP.pick [0, 9, 12, 13, 14, 18, 156] ?_
                            exact QP.meet ⟨_, Option.some.inj h, rfl, rfl, rfl⟩
                          · replace hc := (Bool.eq_false_iff.1 hc)
                            rw [if_neg hc] at h
                            have hc123 := hc
                            clear hc
                            refine WA.pure [12, 13, 14, 15, 16, 17, 18, 19] [0, 9, 12, 13, 14, 18, 156] (m := 0) (b' := 1048575) (L' := [(0, .slice Al0 l0.length cl0), (9, .pointer (some ⟨bR12, 0, none⟩)), (12, .int .u64 t37.1), (13, .bool t37.2), (14, .slice As41 s41.length cs41), (18, .int .i64 y60), (156, .bool false)]) (by kernel_rfl) (NoPanic.then (NoPanic.block (NoPanic.then (NoPanic.then (NoPanic.block (NoPanic.then (NoPanic.then (NoPanic.body)))))))) Under.refl hS (by kernel_rfl) ?_
                            refine WA.done hS (by kernel_rfl) ?_
                            refine QP.pick [0, 9, 12, 13, 14, 18, 156] ?_
                            refine QP.dropAt 0 ?_
                            refine QP.pick [0, 9, 12, 13, 14, 18, 156] ?_
                            exact QP.meet ⟨_, Option.some.inj h, rfl, rfl, rfl⟩
                    · rintro _ _ _ ⟨s119, rfl, rfl, rfl, rfl⟩
                      clear h
                      replace h := hk120
                      refine WP.cond (b := s119) (by kernel_rfl) (fun hc => ?_) (fun hc => ?_)
                      · replace hc := hc
                        rw [if_pos hc] at h
                        have hc125 := hc
                        clear hc
                        refine WP.seqP [8] (L' := [(8, .bool false)]) (by kernel_rfl) ?_
                        refine WP.dropAt 3 ?_
                        refine WP.dropAt 2 ?_
                        refine WP.dropAt 1 ?_
                        refine WP.dropAt 0 ?_
                        refine WP.ret ?_
                        refine QP.blockR ?_
                        refine QP.thenR ?_
                        refine QP.thenR ?_
                        refine QP.blockR ?_
                        refine QP.thenR ?_
                        refine QP.thenR ?_
                        obtain rfl := Option.some.inj h
                        obtain rfl := Option.some.inj (show some _ = some _ from hk59)
                        exact QP.returned [8] [.bool false] _ (by kernel_rfl) (by kernel_rfl) (by kernel_rfl) (fun W hI => ⟨_, _, _, rfl, ⟨rfl, rfl, rfl⟩, hI⟩)
                      · replace hc := (Bool.eq_false_iff.1 hc)
                        rw [if_neg hc] at h
                        have hc125 := hc
                        clear hc
                        refine WP.skip ?_
                        refine QP.blockN ?_
                        refine QP.next ?_
                        refine WP.pick [0, 9, 12, 13, 14, 18] ?_
                        refine WP.regionP [0, 9, 12, 13, 14, 18] (L' := [(0, .slice Al0 l0.length cl0), (9, .pointer (some ⟨bR12, 0, none⟩)), (12, .int .u64 t37.1), (13, .bool t37.2), (14, .slice As41 s41.length cs41), (18, .int .i64 (IntKind.i64.wrap (y60 + 1)))]) (by kernel_rfl) ?_
                        refine QP.front (i := 2) rfl ?_
                        refine QP.front (i := 2) rfl ?_
                        refine QP.front (i := 2) rfl ?_
                        refine QP.front (i := 3) rfl ?_
                        refine QP.pick [0, 9, 12, 13, 14, 18] ?_
                        exact QP.meet ⟨kn62, Nat.lt_succ_self _, (IntKind.i64.wrap (y60 + 1)), h, rfl, rfl, rfl⟩
            · replace hc := of_decide_eq_false hc
              rw [if_neg hc] at h
              have hc63 := hc
              clear hc
              refine WP.exit ?_
              refine QP.thenE ?_
              refine QP.thenE ?_
              refine QP.blockE ?_
              refine QP.dropAt 3 ?_
              refine QP.dropAt 2 ?_
              refine QP.dropAt 1 ?_
              refine QP.pick [12, 13, 14] ?_
              exact QP.meet ⟨_, Option.some.inj h, rfl, rfl, rfl⟩
        · rintro _ _ _ ⟨s58, rfl, rfl, rfl, rfl⟩
          clear h
          replace h := hk59
          dsimp only at h
          refine QP.next ?_
          refine WP.pick [12, 13, 14] ?_
          rw [Option.bind_eq_some_iff] at h
          obtain ⟨os126, h, hk127⟩ := h
          refine WP.cut (fun L' G' Γ' => ∃ s126 : Bool, s126 = os126 ∧ L' = [(8, .bool s126)] ∧ G = G' ∧ Γ = Γ') ?_ ?_
          · clear hk127
            refine WP.region ?_
            refine WL.pure 0 2 [12, 14, 158] (L' := [(12, .int .u64 t37.1), (14, .slice As41 s41.length cs41), (158, .bool t37.2)]) (by kernel_rfl) (by decide) ?_
            refine WL.split 158 (b := t37.2) (by kernel_rfl) (fun hc => ?_) (fun hc => ?_)
            · replace hc := hc
              rw [if_pos hc] at h
              have hc128 := hc
              clear hc
              refine WL.pure 2 4 [158, 159, 160] (L' := [(158, .bool true), (159, .int .u64 t37.1), (160, .slice As41 s41.length cs41)]) (by kernel_rfl) (by decide) ?_
              rw [Option.bind_eq_some_iff] at h
              obtain ⟨t129, ht130, h⟩ := h
              refine WL.op (op := .call { callee := (.value (.func 32)), args := #[(.tmp 160)], argTypes := #[53] }) (ty := 44) (d := some 161) (g := some (1, true)) (by kernel_rfl) (by kernel_rfl) (by kernel_rfl) (Does.call (Φ := fun v' G' Γ' => v' = .int .u64 t129 ∧ G = G' ∧ Cs41 :: Γ = Γ') (f := 32) (args := [.slice As41 s41.length cs41]) (by kernel_rfl) (fun W hI => (Calls.lendN (Φ := fun v' N => v' = .int .u64 t129 ∧ N = []) (H := []) (i := 0) rfl hI (fun _ e l133 nl133 hI => by subst e; exact (((grapevineref5_All_calls k s41 As41 cs41 (Hs41.rdN l133 nl133) t129 ht130 hI)).mono fun _ _ hr => by obtain ⟨_, _, _, rfl, hd, hI⟩ := hr; obtain ⟨rfl, rfl, rfl⟩ := hd; exact ⟨_, _, _, rfl, ⟨[], ⟨rfl, rfl⟩, rfl, rfl⟩, hI⟩))).mono fun _ _ hr => by obtain ⟨_, _, _, rfl, ⟨_, hd, rfl, rfl⟩, hI⟩ := hr; obtain ⟨rfl, rfl⟩ := hd; exact ⟨_, _, _, rfl, ⟨rfl, rfl, rfl⟩, hI⟩)) ?_
              rintro _ _ _ ⟨rfl, rfl, rfl⟩
              refine WL.pure 5 8 [164] (L' := [(164, .bool (t37.1 == t129))]) (by kernel_rfl) (by decide) ?_
              refine WL.split 164 (b := (t37.1 == t129)) (by kernel_rfl) (fun hc => ?_) (fun hc => ?_)
              · replace hc := eq_of_beq hc
                rw [if_pos hc] at h
                have hc134 := hc
                clear hc
                rw [Option.bind_eq_some_iff] at h
                obtain ⟨t135, ht136, h⟩ := h
                refine WL.op (op := .call { callee := (.value (.func 13)), args := #[], argTypes := #[] }) (ty := 4) (d := some 165) (g := some (7, true)) (by kernel_rfl) (by kernel_rfl) (by kernel_rfl) (Does.call (f := 13) (args := []) (by kernel_rfl) (fun W hI => (grapevinelaw12_awake_calls HT k   t135 ht136 hI))) ?_
                rintro _ _ _ ⟨rfl, rfl, rfl⟩
                refine WL.rest 9 [8] (L' := [(8, .bool t135)]) (by kernel_rfl) ?_
                refine QP.dropAt 0 ?_
                refine QP.pick [8] ?_
                exact QP.meet ⟨_, Option.some.inj h, rfl, rfl, rfl⟩
              · replace hc := ne_of_beq_false hc
                rw [if_neg hc] at h
                have hc134 := hc
                clear hc
                refine WL.rest 8 [8] (L' := [(8, .bool false)]) (by kernel_rfl) ?_
                refine QP.dropAt 0 ?_
                refine QP.pick [8] ?_
                exact QP.meet ⟨_, Option.some.inj h, rfl, rfl, rfl⟩
            · replace hc := (Bool.eq_false_iff.1 hc)
              rw [if_neg hc] at h
              have hc128 := hc
              clear hc
              refine WL.rest 2 [8] (L' := [(8, .bool false)]) (by kernel_rfl) ?_
              refine QP.dropAt 0 ?_
              refine QP.pick [8] ?_
              exact QP.meet ⟨_, Option.some.inj h, rfl, rfl, rfl⟩
          · rintro _ _ _ ⟨s126, rfl, rfl, rfl, rfl⟩
            clear h
            replace h := hk127
            refine WP.ret ?_
            obtain rfl := Option.some.inj h
            exact QP.returned [8] [.bool s126] _ (by kernel_rfl) (by kernel_rfl) (by kernel_rfl) (fun W hI => ⟨_, _, _, rfl, ⟨rfl, rfl, rfl⟩, hI⟩)
/-- The plain law. -/
def TreeParts_Pure : Prop := ∀ (l0 : List T36) (a1 : Int) (a2 : Int) (a3 : Int), (l0.length ≤ maxLen ∧ ∀ z0 ∈ l0, ((Lit.int .i64 z0.f0).wf = true ∧ (Lit.int .i64 z0.f1).wf = true ∧ (Lit.int .i64 z0.f2).wf = true ∧ (Lit.int .i64 z0.f3).wf = true ∧ z0.f4.size ≤ maxLen)) → (Lit.int .i64 a1).wf = true → (Lit.int .i64 a2).wf = true → (Lit.int .i64 a3).wf = true → ∃ k, grapevinelaw12_TreeParts k l0 a1 a2 a3 = some true
end Go.Proofs.YtajhihpaccggdaaDoor.Gf
