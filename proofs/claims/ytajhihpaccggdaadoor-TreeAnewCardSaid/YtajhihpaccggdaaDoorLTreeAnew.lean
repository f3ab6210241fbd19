/- Walks of Go functions: what each tells, as a plain Lean function, and that the Go code comes to it. Written by gg.py of this repo. -/
import Derived.Test.YtajhihpaccggdaaDoorT
import Derived.Test.YtajhihpaccggdaaDoorF0
import Derived.Test.YtajhihpaccggdaaDoorF1
import Derived.Test.YtajhihpaccggdaaDoorF2
namespace Go.Proofs.YtajhihpaccggdaaDoor.Gf
open Go Go.Gg
set_option maxRecDepth 100000
set_option linter.unusedVariables false
set_option linter.unusedSimpArgs false

/-! ### grapevine/grapevinelaw12.TreeAnew: function 4 -/
noncomputable def grapevinelaw12_TreeAnew_l0 (l0 : List T38) : Nat → Int → T30 → T97 → Option (T30 × T97)
  | 0, _, _, _ => none
  | k + 1, y21, y22, y23 => (if y21 < (l0.length : Int) then (if 0 ≤ y21 ∧ y21 < (l0.length : Int) then (if (l0.getD y21.toNat z38).f0 = true then (if 0 ≤ y21 ∧ y21 < (l0.length : Int) then ((tree_Tree_Drop k y23 ([(⟨(l0.getD y21.toNat z38).f1, (l0.getD y21.toNat z38).f2⟩ : T32)] : List T32)).bind fun t33 => (if 0 ≤ y21 ∧ y21 < (l0.length : Int) then ((grapevineref12_Tree_Drop k y22 ([(⟨(l0.getD y21.toNat z38).f1, (l0.getD y21.toNat z38).f2⟩ : T32)] : List T32)).bind fun t42 => grapevinelaw12_TreeAnew_l0 l0 k (IntKind.i64.wrap (y21 + 1)) t42.2 t33.2) else none)) else none) else (if 0 ≤ y21 ∧ y21 < (l0.length : Int) then ((tree_Tree_Put k y23 ([(⟨(l0.getD y21.toNat z38).f1, (l0.getD y21.toNat z38).f2, (l0.getD y21.toNat z38).f3, (l0.getD y21.toNat z38).f4, (l0.getD y21.toNat z38).f5⟩ : T36)] : List T36)).bind fun t51 => (if 0 ≤ y21 ∧ y21 < (l0.length : Int) then ((grapevineref12_Tree_Put k y22 ([(⟨(l0.getD y21.toNat z38).f1, (l0.getD y21.toNat z38).f2, (l0.getD y21.toNat z38).f3, (l0.getD y21.toNat z38).f4, (l0.getD y21.toNat z38).f5⟩ : T36)] : List T36)).bind fun t60 => grapevinelaw12_TreeAnew_l0 l0 k (IntKind.i64.wrap (y21 + 1)) t60.2 t51.2) else none)) else none)) else none) else some (y22, y23))
noncomputable def grapevinelaw12_TreeAnew_l1 (s19 : T30 × T97) : Nat → Int → T97 → Option (Sum Bool T97)
  | 0, _, _ => none
  | k + 1, y69, y70 => (if y69 ≥ 0 then (if 0 ≤ y69 ∧ y69 < (s19.1.f0.length : Int) then ((tree_Tree_Put k y70 ([(s19.1.f0.getD y69.toNat z36)] : List T36)).bind fun t78 => (if ¬ t78.1 = 1 then some (Sum.inl false) else grapevinelaw12_TreeAnew_l1 s19 k (IntKind.i64.wrap (y69 - 1)) t78.2)) else none) else some (Sum.inr y70))
noncomputable def grapevinelaw12_TreeAnew (k : Nat) (l0 : List T38) (a1 : Int) (a2 : Int) (a3 : Int) : Option Bool := ((grapevinelaw12_great k l0 30).bind fun t1 => (if t1 = true then ((grapevinelaw12_awake k ).bind fun t6 => some t6) else ((tree_New ).bind fun t10 => ((tree_New ).bind fun t14 => ((grapevinelaw12_TreeAnew_l0 l0 k 0 (⟨([] : List T36)⟩ : T30) t10).bind fun s19 => ((some (IntKind.i64.wrap ((s19.1.f0.length : Int) - 1))).bind fun v65 => ((grapevinelaw12_TreeAnew_l1 s19 k v65 t14).bind fun os67 => match os67 with | Sum.inl r => some r | Sum.inr s67 => ((tree_Tree_Sum k s19.2 a1 a2 a3).bind fun t84 => ((tree_Tree_Sum k s67 a1 a2 a3).bind fun t88 => ((if t84.1 = t88.1 then (if (t84.2 == t88.2) = true then ((tree_Tree_Root k s19.2).bind fun t96 => ((tree_Tree_Root k s67).bind fun t100 => (if t96 = t100 then ((tree_Same k s19.2 s67).bind fun t105 => (if t105 = true then ((tree_Tree_Len s19.2).bind fun t110 => ((tree_Tree_Len s67).bind fun t114 => (if t110 = t114 then ((grapevinelaw12_awake k ).bind fun t119 => some t119) else some false))) else some false)) else some false))) else some false) else some false).bind fun s92 => some s92))))))))))
set_option maxHeartbeats 4000000 in
theorem grapevinelaw12_TreeAnew_calls {B : World} {G : GMap} {Γ : List Chunk} {W : World} (HT : Tabs B G) (k : Nat) (l0 : List T38) (a1 : Int) (a2 : Int) (a3 : Int) (Al0 : Option Addr) (cl0 : Nat) (Hl0 : Rd k38 G Al0 cl0 l0) (r : Bool) (h : grapevinelaw12_TreeAnew k l0 a1 a2 a3 = some r) (hI : Inv B G (Γ) W) :
    Calls Tryd.prog 4 [.slice Al0 l0.length cl0, .int .i64 a1, .int .i64 a2, .int .i64 a3].toArray W (Ret B (fun v G' Γ' => v = .bool r ∧ G = G' ∧ Γ = Γ')) := by
  refine calls_WP (Γ := Γ) (G := G) (B := B) Tryd.func4 rfl (by kernel_rfl) ?_ hI
  clear hI
  unfold grapevinelaw12_TreeAnew at h
  refine WP.seqP [0, 1, 2, 3] (L' := [(0, .slice Al0 l0.length cl0), (1, .int .i64 a1), (2, .int .i64 a2), (3, .int .i64 a3)]) (by kernel_rfl) ?_
  refine WP.seq ?_
  refine WP.seqR ?_
  refine WL.pure 0 1 [0, 1, 2, 3, 18] (L' := [(0, .slice Al0 l0.length cl0), (1, .int .i64 a1), (2, .int .i64 a2), (3, .int .i64 a3), (18, .slice Al0 l0.length cl0)]) (by kernel_rfl) (by decide) ?_
  rw [Option.bind_eq_some_iff] at h
  obtain ⟨t1, ht2, h⟩ := h
  refine WL.op (op := .call { callee := (.value (.func 12)), args := #[(.tmp 18), (.const (.int .i64 30))], argTypes := #[22, 3] }) (ty := 4) (d := some 19) (g := none) (by kernel_rfl) (by kernel_rfl) (by kernel_rfl) (Does.call (f := 12) (args := [.slice Al0 l0.length cl0, .int .i64 30]) (by kernel_rfl) (fun W hI => (grapevinelaw12_great_calls k l0 30 Al0 cl0 Hl0 t1 ht2 hI))) ?_
  rintro _ _ _ ⟨rfl, rfl, rfl⟩
  refine WL.restQ 2 [0, 1, 2, 3, 19] (L' := [(0, .slice Al0 l0.length cl0), (1, .int .i64 a1), (2, .int .i64 a2), (3, .int .i64 a3), (19, .bool t1)]) (by kernel_rfl) ?_
  refine WP.cond (b := t1) (by kernel_rfl) (fun hc => ?_) (fun hc => ?_)
  · replace hc := hc
    rw [if_pos hc] at h
    have hc5 := hc
    clear hc
    refine WP.seqR ?_
    rw [Option.bind_eq_some_iff] at h
    obtain ⟨t6, ht7, h⟩ := h
    refine WL.op (op := .call { callee := (.value (.func 13)), args := #[], argTypes := #[] }) (ty := 4) (d := some 20) (g := none) (by kernel_rfl) (by kernel_rfl) (by kernel_rfl) (Does.call (f := 13) (args := []) (by kernel_rfl) (fun W hI => (grapevinelaw12_awake_calls HT k   t6 ht7 hI))) ?_
    rintro _ _ _ ⟨rfl, rfl, rfl⟩
    refine WL.restQ 1 [8] (L' := [(8, .bool t6)]) (by kernel_rfl) ?_
    refine WP.ret ?_
    refine QP.thenR ?_
    obtain rfl := Option.some.inj h
    exact QP.returned [8] [.bool t6] _ (by kernel_rfl) (by kernel_rfl) (by kernel_rfl) (fun W hI => ⟨_, _, _, rfl, ⟨rfl, rfl, rfl⟩, hI⟩)
  · replace hc := (Bool.eq_false_iff.1 hc)
    rw [if_neg hc] at h
    have hc5 := hc
    clear hc
    refine WP.skip ?_
    refine QP.next ?_
    refine WP.pick [0, 1, 2, 3] ?_
    refine WP.seqR ?_
    rw [Option.bind_eq_some_iff] at h
    obtain ⟨t10, ht11, h⟩ := h
    refine WL.op (op := .call { callee := (.value (.func 14)), args := #[], argTypes := #[] }) (ty := 25) (d := some 21) (g := none) (by kernel_rfl) (by kernel_rfl) (by kernel_rfl) (Does.call (f := 14) (args := []) (by kernel_rfl) (fun W hI => (tree_New_calls   t10 ht11 hI))) ?_
    rintro _ _ _ ⟨bR12, AR12_0, cR12_0, CR12_0, AR12_1, cR12_1, CR12_1, rfl, HR12_0, HR12_1, rfl, rfl⟩
    rw [Option.bind_eq_some_iff] at h
    obtain ⟨t14, ht15, h⟩ := h
    refine WL.op (op := .call { callee := (.value (.func 14)), args := #[], argTypes := #[] }) (ty := 25) (d := some 22) (g := none) (by kernel_rfl) (by kernel_rfl) (by kernel_rfl) (Does.call (f := 14) (args := []) (by kernel_rfl) (fun W hI => (tree_New_calls   t14 ht15 hI))) ?_
    rintro _ _ _ ⟨bR16, AR16_0, cR16_0, CR16_0, AR16_1, cR16_1, CR16_1, rfl, HR16_0, HR16_1, rfl, rfl⟩
    refine WL.pure 2 3 [0, 1, 2, 3, 21, 22, 23] (L' := [(0, .slice Al0 l0.length cl0), (1, .int .i64 a1), (2, .int .i64 a2), (3, .int .i64 a3), (21, .pointer (some ⟨bR12, 0, none⟩)), (22, .pointer (some ⟨bR16, 0, none⟩)), (23, .agg #[.slice none 0 0])]) (by kernel_rfl) (by decide) ?_
    refine WL.op (op := .box 30 (.tmp 23)) (ty := 27) (d := some 24) (g := none) (by kernel_rfl) (by kernel_rfl) (by kernel_rfl) (Does.new (o := .cells #[.slice none 0 0] 30 (0, 0)) (v := fun r => .pointer (some ⟨r, 0, none⟩)) (fun r => by kernel_rfl)) ?_
    rintro _ _ _ ⟨b18, rfl, rfl, rfl⟩
    refine WL.restQ 4 [0, 1, 2, 3, 9, 10, 11] (L' := [(0, .slice Al0 l0.length cl0), (1, .int .i64 a1), (2, .int .i64 a2), (3, .int .i64 a3), (9, .pointer (some ⟨bR12, 0, none⟩)), (10, .pointer (some ⟨bR16, 0, none⟩)), (11, .pointer (some ⟨b18, 0, none⟩))]) (by kernel_rfl) ?_
    refine WP.seq ?_
    refine WP.seqP [0, 1, 2, 3, 9, 10, 11, 30] (L' := [(0, .slice Al0 l0.length cl0), (1, .int .i64 a1), (2, .int .i64 a2), (3, .int .i64 a3), (9, .pointer (some ⟨bR12, 0, none⟩)), (10, .pointer (some ⟨bR16, 0, none⟩)), (11, .pointer (some ⟨b18, 0, none⟩)), (30, .bool false)]) (by kernel_rfl) ?_
    refine WP.no (by kernel_rfl) ?_
    refine WP.skip ?_
    refine QP.next ?_
    refine WP.pick [0, 1, 2, 3, 9, 10, 11] ?_
    refine WP.seq ?_
    refine WP.seqP [0, 1, 2, 3, 9, 10, 11, 12] (L' := [(0, .slice Al0 l0.length cl0), (1, .int .i64 a1), (2, .int .i64 a2), (3, .int .i64 a3), (9, .pointer (some ⟨bR12, 0, none⟩)), (10, .pointer (some ⟨bR16, 0, none⟩)), (11, .pointer (some ⟨b18, 0, none⟩)), (12, .int .i64 0)]) (by kernel_rfl) ?_
    rw [Option.bind_eq_some_iff] at h
    obtain ⟨os19, h, hk20⟩ := h
    refine WP.cutQ (fun L' G' Γ' => ∃ s19 : T30 × T97, s19 = os19 ∧ ∃ (As19_1_f0 : Option Addr), ∃ (cs19_1_f0 : Nat), ∃ (Cs19_1_f0 : Chunk), ∃ (As19_2_f0 : Option Addr), ∃ (cs19_2_f0 : Nat), ∃ (Cs19_2_f0 : Chunk), ∃ (As19_2_f1 : Option Addr), ∃ (cs19_2_f1 : Nat), ∃ (Cs19_2_f1 : Chunk), L' = [(1, .int .i64 a1), (2, .int .i64 a2), (3, .int .i64 a3), (9, .pointer (some ⟨bR12, 0, none⟩)), (10, .pointer (some ⟨bR16, 0, none⟩)), (11, .pointer (some ⟨b18, 0, none⟩))] ∧ G = G' ∧ [(b18, .cells #[.slice As19_1_f0 s19.1.f0.length cs19_1_f0] 30 (0, 0))] :: Cs19_1_f0 :: [(bR16, .cells #[mpv AR16_0, mpv AR16_1] 97 (0, 0))] :: CR16_0 :: CR16_1 :: [(bR12, .cells #[mpv As19_2_f0, mpv As19_2_f1] 97 (0, 0))] :: Cs19_2_f0 :: Cs19_2_f1 :: Γ = Γ' ∧ Ow k36 G As19_1_f0 cs19_1_f0 s19.1.f0 Cs19_1_f0 ∧ MpO m94 G As19_2_f0 cs19_2_f0 s19.2.f0 Cs19_2_f0 ∧ MpO m95 G As19_2_f1 cs19_2_f1 s19.2.f1 Cs19_2_f1) ?_ ?_
    · clear hk20
      refine WP.block ?_
      refine WP.addNil ?_
      refine WP.pick [0, 1, 2, 3, 9, 10, 11, 12] ?_
      refine WP.loopF (fun kn24 L' G' Γ' => ∃ (y21 : Int), ∃ (y22 : T30), ∃ (y23 : T97), grapevinelaw12_TreeAnew_l0 l0 kn24 y21 y22 y23 = some os19 ∧ ∃ (Ay22_f0 : Option Addr), ∃ (cy22_f0 : Nat), ∃ (Cy22_f0 : Chunk), ∃ (Ay23_f0 : Option Addr), ∃ (cy23_f0 : Nat), ∃ (Cy23_f0 : Chunk), ∃ (Ay23_f1 : Option Addr), ∃ (cy23_f1 : Nat), ∃ (Cy23_f1 : Chunk), L' = [(0, .slice Al0 l0.length cl0), (1, .int .i64 a1), (2, .int .i64 a2), (3, .int .i64 a3), (9, .pointer (some ⟨bR12, 0, none⟩)), (10, .pointer (some ⟨bR16, 0, none⟩)), (11, .pointer (some ⟨b18, 0, none⟩)), (12, .int .i64 y21)] ∧ G = G' ∧ Cy22_f0 :: [(b18, .cells #[.slice Ay22_f0 y22.f0.length cy22_f0] 30 (0, 0))] :: [(bR16, .cells #[mpv AR16_0, mpv AR16_1] 97 (0, 0))] :: CR16_0 :: CR16_1 :: [(bR12, .cells #[mpv Ay23_f0, mpv Ay23_f1] 97 (0, 0))] :: Cy23_f0 :: Cy23_f1 :: Γ = Γ' ∧ Ow k36 G Ay22_f0 cy22_f0 y22.f0 Cy22_f0 ∧ MpO m94 G Ay23_f0 cy23_f0 y23.f0 Cy23_f0 ∧ MpO m95 G Ay23_f1 cy23_f1 y23.f1 Cy23_f1) ?_ k ⟨0, (⟨([] : List T36)⟩ : T30), t10, h, none, 0, [], AR12_0, cR12_0, CR12_0, AR12_1, cR12_1, CR12_1, rfl, rfl, rfl, (Ow.nil k36 _), HR12_0, HR12_1⟩
      clear h
      rintro kn25 _ _ _ ⟨y21, y22, y23, h, Ay22_f0, cy22_f0, Cy22_f0, Ay23_f0, cy23_f0, Cy23_f0, Ay23_f1, cy23_f1, Cy23_f1, rfl, rfl, rfl, Hy22_f0, Hy23_f0, Hy23_f1⟩
      cases kn25 with
      | zero => exact absurd h (by simp [grapevinelaw12_TreeAnew_l0])
      | succ kn25 =>
        simp only [grapevinelaw12_TreeAnew_l0] at h
        refine WP.seq ?_
        refine WP.seqP [0, 1, 2, 3, 9, 10, 11, 12, 34] (L' := [(0, .slice Al0 l0.length cl0), (1, .int .i64 a1), (2, .int .i64 a2), (3, .int .i64 a3), (9, .pointer (some ⟨bR12, 0, none⟩)), (10, .pointer (some ⟨bR16, 0, none⟩)), (11, .pointer (some ⟨b18, 0, none⟩)), (12, .int .i64 y21), (34, .bool (decide (y21 < (l0.length : Int))))]) (by kernel_rfl) ?_
        refine WP.cond (b := decide (y21 < (l0.length : Int))) (by kernel_rfl) (fun hc => ?_) (fun hc => ?_)
        · replace hc := of_decide_eq_true hc
          rw [if_pos hc] at h
          have hc26 := hc
          clear hc
          refine WP.skip ?_
          refine QP.next ?_
          refine WP.pick [0, 1, 2, 3, 9, 10, 11, 12] ?_
          refine WP.seq ?_
          refine WP.block ?_
          refine WP.seqR ?_
          refine WL.pure 0 2 [0, 1, 2, 3, 9, 10, 11, 12, 37, 38] (L' := [(0, .slice Al0 l0.length cl0), (1, .int .i64 a1), (2, .int .i64 a2), (3, .int .i64 a3), (9, .pointer (some ⟨bR12, 0, none⟩)), (10, .pointer (some ⟨bR16, 0, none⟩)), (11, .pointer (some ⟨b18, 0, none⟩)), (12, .int .i64 y21), (37, .slice Al0 l0.length cl0), (38, .int .i64 y21)]) (by kernel_rfl) (by decide) ?_
          by_cases hb27 : 0 ≤ y21 ∧ y21 < (l0.length : Int)
          case neg => rw [if_neg hb27] at h; cases h
          rw [if_pos hb27] at h
          refine WL.tell (op := .indexAddr 22 (.tmp 37) (.tmp 38)) (ty := 0) (d := some 39) (g := none) (by kernel_rfl) (by kernel_rfl) (by kernel_rfl) (Tells.indexAddr (A := Al0) (n := l0.length) (c := cl0) (k := .i64) (j := y21) (by kernel_rfl) (by kernel_rfl) (Hl0.isSome hb27.1 hb27.2) hb27.1 hb27.2 sl22) ?_
          refine WL.tell (op := .fieldAddr 38 (.tmp 39) 0) (ty := 0) (d := some 40) (g := none) (by kernel_rfl) (by kernel_rfl) (by kernel_rfl) (Tells.fieldElem (m := y21.toNat * 6) (A := Al0) (by kernel_rfl) (Hl0.isSome hb27.1 hb27.2) fi38_0) ?_
          refine WL.tellE (op := .load 4 (.tmp 40)) (ty := 4) (d := some 41) (g := none) (by kernel_rfl) (by kernel_rfl) (by kernel_rfl) (Hl0.loadF (agg := false) (off := 0) hb27.1 hb27.2 z38 ag4 (fun _ => rfl) (by decide) (by kernel_rfl)) ?_
          rintro _ rfl
          refine WL.restQ 5 [0, 1, 2, 3, 9, 10, 11, 12, 41] (L' := [(0, .slice Al0 l0.length cl0), (1, .int .i64 a1), (2, .int .i64 a2), (3, .int .i64 a3), (9, .pointer (some ⟨bR12, 0, none⟩)), (10, .pointer (some ⟨bR16, 0, none⟩)), (11, .pointer (some ⟨b18, 0, none⟩)), (12, .int .i64 y21), (41, .bool ((l0.getD y21.toNat z38).f0))]) (by kernel_rfl) ?_
          refine WP.cond (b := (l0.getD y21.toNat z38).f0) (by kernel_rfl) (fun hc => ?_) (fun hc => ?_)
          · replace hc := hc
            rw [if_pos hc] at h
            have hc28 := hc
            clear hc
            refine WP.seqR ?_
            refine WL.pure 0 3 [0, 1, 2, 3, 9, 10, 11, 12, 42, 43, 44] (L' := [(0, .slice Al0 l0.length cl0), (1, .int .i64 a1), (2, .int .i64 a2), (3, .int .i64 a3), (9, .pointer (some ⟨bR12, 0, none⟩)), (10, .pointer (some ⟨bR16, 0, none⟩)), (11, .pointer (some ⟨b18, 0, none⟩)), (12, .int .i64 y21), (42, .pointer (some ⟨bR12, 0, none⟩)), (43, .slice Al0 l0.length cl0), (44, .int .i64 y21)]) (by kernel_rfl) (by decide) ?_
            by_cases hb29 : 0 ≤ y21 ∧ y21 < (l0.length : Int)
            case neg => rw [if_neg hb29] at h; cases h
            rw [if_pos hb29] at h
            refine WL.tell (op := .indexAddr 22 (.tmp 43) (.tmp 44)) (ty := 0) (d := some 45) (g := none) (by kernel_rfl) (by kernel_rfl) (by kernel_rfl) (Tells.indexAddr (A := Al0) (n := l0.length) (c := cl0) (k := .i64) (j := y21) (by kernel_rfl) (by kernel_rfl) (Hl0.isSome hb29.1 hb29.2) hb29.1 hb29.2 sl22) ?_
            refine WL.tell (op := .fieldAddr 38 (.tmp 45) 1) (ty := 0) (d := some 46) (g := none) (by kernel_rfl) (by kernel_rfl) (by kernel_rfl) (Tells.fieldElem (m := y21.toNat * 6) (A := Al0) (by kernel_rfl) (Hl0.isSome hb29.1 hb29.2) fi38_1) ?_
            refine WL.tell (op := .fieldAddr 36 (.tmp 46) 0) (ty := 0) (d := some 47) (g := none) (by kernel_rfl) (by kernel_rfl) (by kernel_rfl) (Tells.fieldElem (m := y21.toNat * 6 + 1) (A := Al0) (by kernel_rfl) (Hl0.isSome hb29.1 hb29.2) fi36_0) ?_
            refine WL.tellE (op := .load 32 (.tmp 47)) (ty := 32) (d := some 48) (g := none) (by kernel_rfl) (by kernel_rfl) (by kernel_rfl) (Hl0.loadF (agg := true) (off := 1) hb29.1 hb29.2 z38 ag32 (fun h => by cases h) (by decide) (by kernel_rfl)) ?_
            rintro _ rfl
            refine WL.op (op := .buildSlice 41 1 #[(0, (.tmp 48))]) (ty := 41) (d := some 49) (g := none) (by kernel_rfl) (by kernel_rfl) (by kernel_rfl) (Does.new (o := .cells #[.int .i64 ((l0.getD y21.toNat z38).f1), .int .i64 ((l0.getD y21.toNat z38).f2)] 32 (0, 0)) (v := fun r => .slice (some ⟨r, 0, none⟩) 1 1) (fun r => by kernel_rfl)) ?_
            rintro _ _ _ ⟨b30, rfl, rfl, rfl⟩
            have Ho32 : Ow k32 G (some ⟨b30, 0, none⟩) 1 ([(⟨(l0.getD y21.toNat z38).f1, (l0.getD y21.toNat z38).f2⟩ : T32)] : List T32) [(b30, .cells #[.int .i64 ((l0.getD y21.toNat z38).f1), .int .i64 ((l0.getD y21.toNat z38).f2)] 32 (0, 0))] := Ow.lit (kd := k32) (G := G) (b := b30) (T := 32) (xs := ([(⟨(l0.getD y21.toNat z38).f1, (l0.getD y21.toNat z38).f2⟩ : T32)] : List T32)) (cs := [.int .i64 ((l0.getD y21.toNat z38).f1), .int .i64 ((l0.getD y21.toNat z38).f2)]) (.cons (x := (⟨(l0.getD y21.toNat z38).f1, (l0.getD y21.toNat z38).f2⟩ : T32)) (cs := [.int .i64 ((l0.getD y21.toNat z38).f1), .int .i64 ((l0.getD y21.toNat z38).f2)]) (by exact rfl) .nil)
            refine WL.front (i := 8) rfl ?_
            refine WL.front (i := 8) rfl ?_
            refine WL.front (i := 8) rfl ?_
            rw [Option.bind_eq_some_iff] at h
            obtain ⟨t33, ht34, h⟩ := h
            refine WL.op (op := .call { callee := (.value (.func 15)), args := #[(.tmp 42), (.tmp 49)], argTypes := #[25, 41] }) (ty := 3) (d := some 50) (g := none) (by kernel_rfl) (by kernel_rfl) (by kernel_rfl) (Does.call (Φ := fun v' G' Γ' => ∃ (AR35p0_0 : Option Addr), ∃ (cR35p0_0 : Nat), ∃ (CR35p0_0 : Chunk), ∃ (AR35p0_1 : Option Addr), ∃ (cR35p0_1 : Nat), ∃ (CR35p0_1 : Chunk), v' = .int .i64 t33.1 ∧ MpO m94 G AR35p0_0 cR35p0_0 t33.2.f0 CR35p0_0 ∧ MpO m95 G AR35p0_1 cR35p0_1 t33.2.f1 CR35p0_1 ∧ G = G' ∧ [(bR12, .cells #[mpv AR35p0_0, mpv AR35p0_1] 97 (0, 0))] :: CR35p0_0 :: CR35p0_1 :: [(b30, .cells #[.int .i64 ((l0.getD y21.toNat z38).f1), .int .i64 ((l0.getD y21.toNat z38).f2)] 32 (0, 0))] :: Cy22_f0 :: [(b18, .cells #[.slice Ay22_f0 y22.f0.length cy22_f0] 30 (0, 0))] :: [(bR16, .cells #[mpv AR16_0, mpv AR16_1] 97 (0, 0))] :: CR16_0 :: CR16_1 :: Γ = Γ') (f := 15) (args := [.pointer (some ⟨bR12, 0, none⟩), .slice (some ⟨b30, 0, none⟩) ([(⟨(l0.getD y21.toNat z38).f1, (l0.getD y21.toNat z38).f2⟩ : T32)] : List T32).length 1]) (by kernel_rfl) (fun W hI => (Calls.lendN (Φ := fun v' N => ∃ (AR35p0_0 : Option Addr), ∃ (cR35p0_0 : Nat), ∃ (CR35p0_0 : Chunk), ∃ (AR35p0_1 : Option Addr), ∃ (cR35p0_1 : Nat), ∃ (CR35p0_1 : Chunk), v' = .int .i64 t33.1 ∧ MpO m94 G AR35p0_0 cR35p0_0 t33.2.f0 CR35p0_0 ∧ MpO m95 G AR35p0_1 cR35p0_1 t33.2.f1 CR35p0_1 ∧ N = [[(bR12, .cells #[mpv AR35p0_0, mpv AR35p0_1] 97 (0, 0))], CR35p0_0, CR35p0_1]) (H := [[(bR12, .cells #[mpv Ay23_f0, mpv Ay23_f1] 97 (0, 0))], Cy23_f0, Cy23_f1]) (i := 0) rfl hI (fun _ e l37 nl37 hI => by subst e; exact (((tree_Tree_Drop_calls kn25 y23 ([(⟨(l0.getD y21.toNat z38).f1, (l0.getD y21.toNat z38).f2⟩ : T32)] : List T32) bR12 Ay23_f0 cy23_f0 Cy23_f0 (Hy23_f0.mono l37) Ay23_f1 cy23_f1 Cy23_f1 (Hy23_f1.mono l37) (some ⟨b30, 0, none⟩) 1 (Ho32.rdN l37 nl37) t33 ht34 hI)).mono fun _ _ hr => by obtain ⟨_, _, _, rfl, hd, hI⟩ := hr; obtain ⟨AR35p0_0, cR35p0_0, CR35p0_0, AR35p0_1, cR35p0_1, CR35p0_1, rfl, HR35p0_0, HR35p0_1, rfl, rfl⟩ := hd; exact ⟨_, _, _, rfl, ⟨[[(bR12, .cells #[mpv AR35p0_0, mpv AR35p0_1] 97 (0, 0))], CR35p0_0, CR35p0_1], ⟨AR35p0_0, cR35p0_0, CR35p0_0, AR35p0_1, cR35p0_1, CR35p0_1, rfl, (HR35p0_0.flat ()), (HR35p0_1.flat ()), rfl⟩, rfl, rfl⟩, hI⟩))).mono fun _ _ hr => by obtain ⟨_, _, _, rfl, ⟨_, hd, rfl, rfl⟩, hI⟩ := hr; obtain ⟨AR35p0_0, cR35p0_0, CR35p0_0, AR35p0_1, cR35p0_1, CR35p0_1, rfl, HR35p0_0, HR35p0_1, rfl⟩ := hd; exact ⟨_, _, _, rfl, ⟨AR35p0_0, cR35p0_0, CR35p0_0, AR35p0_1, cR35p0_1, CR35p0_1, rfl, HR35p0_0, HR35p0_1, rfl, rfl⟩, hI⟩)) ?_
            rintro _ _ _ ⟨AR35p0_0, cR35p0_0, CR35p0_0, AR35p0_1, cR35p0_1, CR35p0_1, rfl, HR35p0_0, HR35p0_1, rfl, rfl⟩
            refine WL.restQ 9 [0, 1, 2, 3, 9, 10, 11, 12] (L' := [(0, .slice Al0 l0.length cl0), (1, .int .i64 a1), (2, .int .i64 a2), (3, .int .i64 a3), (9, .pointer (some ⟨bR12, 0, none⟩)), (10, .pointer (some ⟨bR16, 0, none⟩)), (11, .pointer (some ⟨b18, 0, none⟩)), (12, .int .i64 y21)]) (by kernel_rfl) ?_
            refine WP.dropAt 3 ?_
            refine WP.region ?_
            refine WL.pure 0 3 [0, 1, 2, 3, 9, 10, 11, 12, 51, 52, 53] (L' := [(0, .slice Al0 l0.length cl0), (1, .int .i64 a1), (2, .int .i64 a2), (3, .int .i64 a3), (9, .pointer (some ⟨bR12, 0, none⟩)), (10, .pointer (some ⟨bR16, 0, none⟩)), (11, .pointer (some ⟨b18, 0, none⟩)), (12, .int .i64 y21), (51, .pointer (some ⟨b18, 0, none⟩)), (52, .slice Al0 l0.length cl0), (53, .int .i64 y21)]) (by kernel_rfl) (by decide) ?_
            by_cases hb38 : 0 ≤ y21 ∧ y21 < (l0.length : Int)
            case neg => rw [if_neg hb38] at h; cases h
            rw [if_pos hb38] at h
            refine WL.tell (op := .indexAddr 22 (.tmp 52) (.tmp 53)) (ty := 0) (d := some 54) (g := none) (by kernel_rfl) (by kernel_rfl) (by kernel_rfl) (Tells.indexAddr (A := Al0) (n := l0.length) (c := cl0) (k := .i64) (j := y21) (by kernel_rfl) (by kernel_rfl) (Hl0.isSome hb38.1 hb38.2) hb38.1 hb38.2 sl22) ?_
            refine WL.tell (op := .fieldAddr 38 (.tmp 54) 1) (ty := 0) (d := some 55) (g := none) (by kernel_rfl) (by kernel_rfl) (by kernel_rfl) (Tells.fieldElem (m := y21.toNat * 6) (A := Al0) (by kernel_rfl) (Hl0.isSome hb38.1 hb38.2) fi38_1) ?_
            refine WL.tell (op := .fieldAddr 36 (.tmp 55) 0) (ty := 0) (d := some 56) (g := none) (by kernel_rfl) (by kernel_rfl) (by kernel_rfl) (Tells.fieldElem (m := y21.toNat * 6 + 1) (A := Al0) (by kernel_rfl) (Hl0.isSome hb38.1 hb38.2) fi36_0) ?_
            refine WL.tellE (op := .load 32 (.tmp 56)) (ty := 32) (d := some 57) (g := none) (by kernel_rfl) (by kernel_rfl) (by kernel_rfl) (Hl0.loadF (agg := true) (off := 1) hb38.1 hb38.2 z38 ag32 (fun h => by cases h) (by decide) (by kernel_rfl)) ?_
            rintro _ rfl
            refine WL.op (op := .buildSlice 41 1 #[(0, (.tmp 57))]) (ty := 41) (d := some 58) (g := none) (by kernel_rfl) (by kernel_rfl) (by kernel_rfl) (Does.new (o := .cells #[.int .i64 ((l0.getD y21.toNat z38).f1), .int .i64 ((l0.getD y21.toNat z38).f2)] 32 (0, 0)) (v := fun r => .slice (some ⟨r, 0, none⟩) 1 1) (fun r => by kernel_rfl)) ?_
            rintro _ _ _ ⟨b39, rfl, rfl, rfl⟩
            have Ho41 : Ow k32 G (some ⟨b39, 0, none⟩) 1 ([(⟨(l0.getD y21.toNat z38).f1, (l0.getD y21.toNat z38).f2⟩ : T32)] : List T32) [(b39, .cells #[.int .i64 ((l0.getD y21.toNat z38).f1), .int .i64 ((l0.getD y21.toNat z38).f2)] 32 (0, 0))] := Ow.lit (kd := k32) (G := G) (b := b39) (T := 32) (xs := ([(⟨(l0.getD y21.toNat z38).f1, (l0.getD y21.toNat z38).f2⟩ : T32)] : List T32)) (cs := [.int .i64 ((l0.getD y21.toNat z38).f1), .int .i64 ((l0.getD y21.toNat z38).f2)]) (.cons (x := (⟨(l0.getD y21.toNat z38).f1, (l0.getD y21.toNat z38).f2⟩ : T32)) (cs := [.int .i64 ((l0.getD y21.toNat z38).f1), .int .i64 ((l0.getD y21.toNat z38).f2)]) (by exact rfl) .nil)
            refine WL.front (i := 4) rfl ?_
            refine WL.front (i := 5) rfl ?_
            rw [Option.bind_eq_some_iff] at h
            obtain ⟨t42, ht43, h⟩ := h
            refine WL.op (op := .call { callee := (.value (.func 16)), args := #[(.tmp 51), (.tmp 58)], argTypes := #[27, 41] }) (ty := 3) (d := some 59) (g := none) (by kernel_rfl) (by kernel_rfl) (by kernel_rfl) (Does.call (Φ := fun v' G' Γ' => ∃ (AR44p0 : Option Addr), ∃ (cR44p0 : Nat), ∃ (CR44p0 : Chunk), v' = .int .i64 t42.1 ∧ Ow k36 G AR44p0 cR44p0 t42.2.f0 CR44p0 ∧ G = G' ∧ [(b18, .cells #[.slice AR44p0 t42.2.f0.length cR44p0] 30 (0, 0))] :: CR44p0 :: [(b39, .cells #[.int .i64 ((l0.getD y21.toNat z38).f1), .int .i64 ((l0.getD y21.toNat z38).f2)] 32 (0, 0))] :: [(bR12, .cells #[mpv AR35p0_0, mpv AR35p0_1] 97 (0, 0))] :: CR35p0_0 :: CR35p0_1 :: [(bR16, .cells #[mpv AR16_0, mpv AR16_1] 97 (0, 0))] :: CR16_0 :: CR16_1 :: Γ = Γ') (f := 16) (args := [.pointer (some ⟨b18, 0, none⟩), .slice (some ⟨b39, 0, none⟩) ([(⟨(l0.getD y21.toNat z38).f1, (l0.getD y21.toNat z38).f2⟩ : T32)] : List T32).length 1]) (by kernel_rfl) (fun W hI => (Calls.lendN (Φ := fun v' N => ∃ (AR44p0 : Option Addr), ∃ (cR44p0 : Nat), ∃ (CR44p0 : Chunk), v' = .int .i64 t42.1 ∧ Ow k36 G AR44p0 cR44p0 t42.2.f0 CR44p0 ∧ N = [[(b18, .cells #[.slice AR44p0 t42.2.f0.length cR44p0] 30 (0, 0))], CR44p0]) (H := [[(b18, .cells #[.slice Ay22_f0 y22.f0.length cy22_f0] 30 (0, 0))], Cy22_f0]) (i := 0) rfl hI (fun _ e l46 nl46 hI => by subst e; exact (((grapevineref12_Tree_Drop_calls kn25 y22 ([(⟨(l0.getD y21.toNat z38).f1, (l0.getD y21.toNat z38).f2⟩ : T32)] : List T32) b18 Ay22_f0 cy22_f0 Cy22_f0 (Hy22_f0.mono l46) (some ⟨b39, 0, none⟩) 1 (Ho41.rdN l46 nl46) t42 ht43 hI)).mono fun _ _ hr => by obtain ⟨_, _, _, rfl, hd, hI⟩ := hr; obtain ⟨AR44p0, cR44p0, CR44p0, rfl, HR44p0, rfl, rfl⟩ := hd; exact ⟨_, _, _, rfl, ⟨[[(b18, .cells #[.slice AR44p0 t42.2.f0.length cR44p0] 30 (0, 0))], CR44p0], ⟨AR44p0, cR44p0, CR44p0, rfl, (HR44p0.flat (kFlat_flat _ _ _ _)), rfl⟩, rfl, rfl⟩, hI⟩))).mono fun _ _ hr => by obtain ⟨_, _, _, rfl, ⟨_, hd, rfl, rfl⟩, hI⟩ := hr; obtain ⟨AR44p0, cR44p0, CR44p0, rfl, HR44p0, rfl⟩ := hd; exact ⟨_, _, _, rfl, ⟨AR44p0, cR44p0, CR44p0, rfl, HR44p0, rfl, rfl⟩, hI⟩)) ?_
            rintro _ _ _ ⟨AR44p0, cR44p0, CR44p0, rfl, HR44p0, rfl, rfl⟩
            refine WL.rest 9 [0, 1, 2, 3, 9, 10, 11, 12] (L' := [(0, .slice Al0 l0.length cl0), (1, .int .i64 a1), (2, .int .i64 a2), (3, .int .i64 a3), (9, .pointer (some ⟨bR12, 0, none⟩)), (10, .pointer (some ⟨bR16, 0, none⟩)), (11, .pointer (some ⟨b18, 0, none⟩)), (12, .int .i64 y21)]) (by kernel_rfl) ?_
            refine QP.blockN ?_
            refine QP.next ?_
            refine WP.pick [0, 1, 2, 3, 9, 10, 11, 12] ?_
            refine WP.regionP [0, 1, 2, 3, 9, 10, 11, 12] (L' := [(0, .slice Al0 l0.length cl0), (1, .int .i64 a1), (2, .int .i64 a2), (3, .int .i64 a3), (9, .pointer (some ⟨bR12, 0, none⟩)), (10, .pointer (some ⟨bR16, 0, none⟩)), (11, .pointer (some ⟨b18, 0, none⟩)), (12, .int .i64 (IntKind.i64.wrap (y21 + 1)))]) (by kernel_rfl) ?_
            refine QP.dropAt 2 ?_
            refine QP.front (i := 4) rfl ?_
            refine QP.front (i := 4) rfl ?_
            refine QP.front (i := 4) rfl ?_
            refine QP.front (i := 7) rfl ?_
            refine QP.front (i := 7) rfl ?_
            refine QP.front (i := 7) rfl ?_
            refine QP.front (i := 6) rfl ?_
            refine QP.front (i := 7) rfl ?_
            refine QP.pick [0, 1, 2, 3, 9, 10, 11, 12] ?_
            exact QP.meet ⟨kn25, Nat.lt_succ_self _, (IntKind.i64.wrap (y21 + 1)), t42.2, t33.2, h, AR44p0, cR44p0, CR44p0, AR35p0_0, cR35p0_0, CR35p0_0, AR35p0_1, cR35p0_1, CR35p0_1, rfl, rfl, rfl, HR44p0, HR35p0_0, HR35p0_1⟩
          · replace hc := (Bool.eq_false_iff.1 hc)
            rw [if_neg hc] at h
            have hc28 := hc
            clear hc
            refine WP.seqR ?_
            refine WL.pure 0 3 [0, 1, 2, 3, 9, 10, 11, 12, 60, 61, 62] (L' := [(0, .slice Al0 l0.length cl0), (1, .int .i64 a1), (2, .int .i64 a2), (3, .int .i64 a3), (9, .pointer (some ⟨bR12, 0, none⟩)), (10, .pointer (some ⟨bR16, 0, none⟩)), (11, .pointer (some ⟨b18, 0, none⟩)), (12, .int .i64 y21), (60, .pointer (some ⟨bR12, 0, none⟩)), (61, .slice Al0 l0.length cl0), (62, .int .i64 y21)]) (by kernel_rfl) (by decide) ?_
            by_cases hb47 : 0 ≤ y21 ∧ y21 < (l0.length : Int)
            case neg => rw [if_neg hb47] at h; cases h
            rw [if_pos hb47] at h
            refine WL.tell (op := .indexAddr 22 (.tmp 61) (.tmp 62)) (ty := 0) (d := some 63) (g := none) (by kernel_rfl) (by kernel_rfl) (by kernel_rfl) (Tells.indexAddr (A := Al0) (n := l0.length) (c := cl0) (k := .i64) (j := y21) (by kernel_rfl) (by kernel_rfl) (Hl0.isSome hb47.1 hb47.2) hb47.1 hb47.2 sl22) ?_
            refine WL.tell (op := .fieldAddr 38 (.tmp 63) 1) (ty := 0) (d := some 64) (g := none) (by kernel_rfl) (by kernel_rfl) (by kernel_rfl) (Tells.fieldElem (m := y21.toNat * 6) (A := Al0) (by kernel_rfl) (Hl0.isSome hb47.1 hb47.2) fi38_1) ?_
            refine WL.tellE (op := .load 36 (.tmp 64)) (ty := 36) (d := some 65) (g := none) (by kernel_rfl) (by kernel_rfl) (by kernel_rfl) (Hl0.loadF (agg := true) (off := 1) hb47.1 hb47.2 z38 ag36 (fun h => by cases h) (by decide) (by kernel_rfl)) ?_
            rintro _ rfl
            refine WL.op (op := .buildSlice 28 1 #[(0, (.tmp 65))]) (ty := 28) (d := some 66) (g := none) (by kernel_rfl) (by kernel_rfl) (by kernel_rfl) (Does.new (o := .cells #[.int .i64 ((l0.getD y21.toNat z38).f1), .int .i64 ((l0.getD y21.toNat z38).f2), .int .i64 ((l0.getD y21.toNat z38).f3), .int .i64 ((l0.getD y21.toNat z38).f4), .string ((l0.getD y21.toNat z38).f5)] 36 (0, 0)) (v := fun r => .slice (some ⟨r, 0, none⟩) 1 1) (fun r => by kernel_rfl)) ?_
            rintro _ _ _ ⟨b48, rfl, rfl, rfl⟩
            have Ho50 : Ow k36 G (some ⟨b48, 0, none⟩) 1 ([(⟨(l0.getD y21.toNat z38).f1, (l0.getD y21.toNat z38).f2, (l0.getD y21.toNat z38).f3, (l0.getD y21.toNat z38).f4, (l0.getD y21.toNat z38).f5⟩ : T36)] : List T36) [(b48, .cells #[.int .i64 ((l0.getD y21.toNat z38).f1), .int .i64 ((l0.getD y21.toNat z38).f2), .int .i64 ((l0.getD y21.toNat z38).f3), .int .i64 ((l0.getD y21.toNat z38).f4), .string ((l0.getD y21.toNat z38).f5)] 36 (0, 0))] := Ow.lit (kd := k36) (G := G) (b := b48) (T := 36) (xs := ([(⟨(l0.getD y21.toNat z38).f1, (l0.getD y21.toNat z38).f2, (l0.getD y21.toNat z38).f3, (l0.getD y21.toNat z38).f4, (l0.getD y21.toNat z38).f5⟩ : T36)] : List T36)) (cs := [.int .i64 ((l0.getD y21.toNat z38).f1), .int .i64 ((l0.getD y21.toNat z38).f2), .int .i64 ((l0.getD y21.toNat z38).f3), .int .i64 ((l0.getD y21.toNat z38).f4), .string ((l0.getD y21.toNat z38).f5)]) (.cons (x := (⟨(l0.getD y21.toNat z38).f1, (l0.getD y21.toNat z38).f2, (l0.getD y21.toNat z38).f3, (l0.getD y21.toNat z38).f4, (l0.getD y21.toNat z38).f5⟩ : T36)) (cs := [.int .i64 ((l0.getD y21.toNat z38).f1), .int .i64 ((l0.getD y21.toNat z38).f2), .int .i64 ((l0.getD y21.toNat z38).f3), .int .i64 ((l0.getD y21.toNat z38).f4), .string ((l0.getD y21.toNat z38).f5)]) (by exact rfl) .nil)
            refine WL.front (i := 8) rfl ?_
            refine WL.front (i := 8) rfl ?_
            refine WL.front (i := 8) rfl ?_
            rw [Option.bind_eq_some_iff] at h
            obtain ⟨t51, ht52, h⟩ := h
            refine WL.op (op := .call { callee := (.value (.func 17)), args := #[(.tmp 60), (.tmp 66)], argTypes := #[25, 28] }) (ty := 3) (d := some 67) (g := none) (by kernel_rfl) (by kernel_rfl) (by kernel_rfl) (Does.call (Φ := fun v' G' Γ' => ∃ (AR53p0_0 : Option Addr), ∃ (cR53p0_0 : Nat), ∃ (CR53p0_0 : Chunk), ∃ (AR53p0_1 : Option Addr), ∃ (cR53p0_1 : Nat), ∃ (CR53p0_1 : Chunk), v' = .int .i64 t51.1 ∧ MpO m94 G AR53p0_0 cR53p0_0 t51.2.f0 CR53p0_0 ∧ MpO m95 G AR53p0_1 cR53p0_1 t51.2.f1 CR53p0_1 ∧ G = G' ∧ [(bR12, .cells #[mpv AR53p0_0, mpv AR53p0_1] 97 (0, 0))] :: CR53p0_0 :: CR53p0_1 :: [(b48, .cells #[.int .i64 ((l0.getD y21.toNat z38).f1), .int .i64 ((l0.getD y21.toNat z38).f2), .int .i64 ((l0.getD y21.toNat z38).f3), .int .i64 ((l0.getD y21.toNat z38).f4), .string ((l0.getD y21.toNat z38).f5)] 36 (0, 0))] :: Cy22_f0 :: [(b18, .cells #[.slice Ay22_f0 y22.f0.length cy22_f0] 30 (0, 0))] :: [(bR16, .cells #[mpv AR16_0, mpv AR16_1] 97 (0, 0))] :: CR16_0 :: CR16_1 :: Γ = Γ') (f := 17) (args := [.pointer (some ⟨bR12, 0, none⟩), .slice (some ⟨b48, 0, none⟩) ([(⟨(l0.getD y21.toNat z38).f1, (l0.getD y21.toNat z38).f2, (l0.getD y21.toNat z38).f3, (l0.getD y21.toNat z38).f4, (l0.getD y21.toNat z38).f5⟩ : T36)] : List T36).length 1]) (by kernel_rfl) (fun W hI => (Calls.lendN (Φ := fun v' N => ∃ (AR53p0_0 : Option Addr), ∃ (cR53p0_0 : Nat), ∃ (CR53p0_0 : Chunk), ∃ (AR53p0_1 : Option Addr), ∃ (cR53p0_1 : Nat), ∃ (CR53p0_1 : Chunk), v' = .int .i64 t51.1 ∧ MpO m94 G AR53p0_0 cR53p0_0 t51.2.f0 CR53p0_0 ∧ MpO m95 G AR53p0_1 cR53p0_1 t51.2.f1 CR53p0_1 ∧ N = [[(bR12, .cells #[mpv AR53p0_0, mpv AR53p0_1] 97 (0, 0))], CR53p0_0, CR53p0_1]) (H := [[(bR12, .cells #[mpv Ay23_f0, mpv Ay23_f1] 97 (0, 0))], Cy23_f0, Cy23_f1]) (i := 0) rfl hI (fun _ e l55 nl55 hI => by subst e; exact (((tree_Tree_Put_calls (HT.mono l55) kn25 y23 ([(⟨(l0.getD y21.toNat z38).f1, (l0.getD y21.toNat z38).f2, (l0.getD y21.toNat z38).f3, (l0.getD y21.toNat z38).f4, (l0.getD y21.toNat z38).f5⟩ : T36)] : List T36) bR12 Ay23_f0 cy23_f0 Cy23_f0 (Hy23_f0.mono l55) Ay23_f1 cy23_f1 Cy23_f1 (Hy23_f1.mono l55) (some ⟨b48, 0, none⟩) 1 (Ho50.rdN l55 nl55) t51 ht52 hI)).mono fun _ _ hr => by obtain ⟨_, _, _, rfl, hd, hI⟩ := hr; obtain ⟨AR53p0_0, cR53p0_0, CR53p0_0, AR53p0_1, cR53p0_1, CR53p0_1, rfl, HR53p0_0, HR53p0_1, rfl, rfl⟩ := hd; exact ⟨_, _, _, rfl, ⟨[[(bR12, .cells #[mpv AR53p0_0, mpv AR53p0_1] 97 (0, 0))], CR53p0_0, CR53p0_1], ⟨AR53p0_0, cR53p0_0, CR53p0_0, AR53p0_1, cR53p0_1, CR53p0_1, rfl, (HR53p0_0.flat ()), (HR53p0_1.flat ()), rfl⟩, rfl, rfl⟩, hI⟩))).mono fun _ _ hr => by obtain ⟨_, _, _, rfl, ⟨_, hd, rfl, rfl⟩, hI⟩ := hr; obtain ⟨AR53p0_0, cR53p0_0, CR53p0_0, AR53p0_1, cR53p0_1, CR53p0_1, rfl, HR53p0_0, HR53p0_1, rfl⟩ := hd; exact ⟨_, _, _, rfl, ⟨AR53p0_0, cR53p0_0, CR53p0_0, AR53p0_1, cR53p0_1, CR53p0_1, rfl, HR53p0_0, HR53p0_1, rfl, rfl⟩, hI⟩)) ?_
            rintro _ _ _ ⟨AR53p0_0, cR53p0_0, CR53p0_0, AR53p0_1, cR53p0_1, CR53p0_1, rfl, HR53p0_0, HR53p0_1, rfl, rfl⟩
            refine WL.restQ 8 [0, 1, 2, 3, 9, 10, 11, 12] (L' := [(0, .slice Al0 l0.length cl0), (1, .int .i64 a1), (2, .int .i64 a2), (3, .int .i64 a3), (9, .pointer (some ⟨bR12, 0, none⟩)), (10, .pointer (some ⟨bR16, 0, none⟩)), (11, .pointer (some ⟨b18, 0, none⟩)), (12, .int .i64 y21)]) (by kernel_rfl) ?_
            refine WP.dropAt 3 ?_
            refine WP.region ?_
            refine WL.pure 0 3 [0, 1, 2, 3, 9, 10, 11, 12, 68, 69, 70] (L' := [(0, .slice Al0 l0.length cl0), (1, .int .i64 a1), (2, .int .i64 a2), (3, .int .i64 a3), (9, .pointer (some ⟨bR12, 0, none⟩)), (10, .pointer (some ⟨bR16, 0, none⟩)), (11, .pointer (some ⟨b18, 0, none⟩)), (12, .int .i64 y21), (68, .pointer (some ⟨b18, 0, none⟩)), (69, .slice Al0 l0.length cl0), (70, .int .i64 y21)]) (by kernel_rfl) (by decide) ?_
            by_cases hb56 : 0 ≤ y21 ∧ y21 < (l0.length : Int)
            case neg => rw [if_neg hb56] at h; cases h
            rw [if_pos hb56] at h
            refine WL.tell (op := .indexAddr 22 (.tmp 69) (.tmp 70)) (ty := 0) (d := some 71) (g := none) (by kernel_rfl) (by kernel_rfl) (by kernel_rfl) (Tells.indexAddr (A := Al0) (n := l0.length) (c := cl0) (k := .i64) (j := y21) (by kernel_rfl) (by kernel_rfl) (Hl0.isSome hb56.1 hb56.2) hb56.1 hb56.2 sl22) ?_
            refine WL.tell (op := .fieldAddr 38 (.tmp 71) 1) (ty := 0) (d := some 72) (g := none) (by kernel_rfl) (by kernel_rfl) (by kernel_rfl) (Tells.fieldElem (m := y21.toNat * 6) (A := Al0) (by kernel_rfl) (Hl0.isSome hb56.1 hb56.2) fi38_1) ?_
            refine WL.tellE (op := .load 36 (.tmp 72)) (ty := 36) (d := some 73) (g := none) (by kernel_rfl) (by kernel_rfl) (by kernel_rfl) (Hl0.loadF (agg := true) (off := 1) hb56.1 hb56.2 z38 ag36 (fun h => by cases h) (by decide) (by kernel_rfl)) ?_
            rintro _ rfl
            refine WL.op (op := .buildSlice 28 1 #[(0, (.tmp 73))]) (ty := 28) (d := some 74) (g := none) (by kernel_rfl) (by kernel_rfl) (by kernel_rfl) (Does.new (o := .cells #[.int .i64 ((l0.getD y21.toNat z38).f1), .int .i64 ((l0.getD y21.toNat z38).f2), .int .i64 ((l0.getD y21.toNat z38).f3), .int .i64 ((l0.getD y21.toNat z38).f4), .string ((l0.getD y21.toNat z38).f5)] 36 (0, 0)) (v := fun r => .slice (some ⟨r, 0, none⟩) 1 1) (fun r => by kernel_rfl)) ?_
            rintro _ _ _ ⟨b57, rfl, rfl, rfl⟩
            have Ho59 : Ow k36 G (some ⟨b57, 0, none⟩) 1 ([(⟨(l0.getD y21.toNat z38).f1, (l0.getD y21.toNat z38).f2, (l0.getD y21.toNat z38).f3, (l0.getD y21.toNat z38).f4, (l0.getD y21.toNat z38).f5⟩ : T36)] : List T36) [(b57, .cells #[.int .i64 ((l0.getD y21.toNat z38).f1), .int .i64 ((l0.getD y21.toNat z38).f2), .int .i64 ((l0.getD y21.toNat z38).f3), .int .i64 ((l0.getD y21.toNat z38).f4), .string ((l0.getD y21.toNat z38).f5)] 36 (0, 0))] := Ow.lit (kd := k36) (G := G) (b := b57) (T := 36) (xs := ([(⟨(l0.getD y21.toNat z38).f1, (l0.getD y21.toNat z38).f2, (l0.getD y21.toNat z38).f3, (l0.getD y21.toNat z38).f4, (l0.getD y21.toNat z38).f5⟩ : T36)] : List T36)) (cs := [.int .i64 ((l0.getD y21.toNat z38).f1), .int .i64 ((l0.getD y21.toNat z38).f2), .int .i64 ((l0.getD y21.toNat z38).f3), .int .i64 ((l0.getD y21.toNat z38).f4), .string ((l0.getD y21.toNat z38).f5)]) (.cons (x := (⟨(l0.getD y21.toNat z38).f1, (l0.getD y21.toNat z38).f2, (l0.getD y21.toNat z38).f3, (l0.getD y21.toNat z38).f4, (l0.getD y21.toNat z38).f5⟩ : T36)) (cs := [.int .i64 ((l0.getD y21.toNat z38).f1), .int .i64 ((l0.getD y21.toNat z38).f2), .int .i64 ((l0.getD y21.toNat z38).f3), .int .i64 ((l0.getD y21.toNat z38).f4), .string ((l0.getD y21.toNat z38).f5)]) (by exact rfl) .nil)
            refine WL.front (i := 4) rfl ?_
            refine WL.front (i := 5) rfl ?_
            rw [Option.bind_eq_some_iff] at h
            obtain ⟨t60, ht61, h⟩ := h
            refine WL.op (op := .call { callee := (.value (.func 18)), args := #[(.tmp 68), (.tmp 74)], argTypes := #[27, 28] }) (ty := 3) (d := some 75) (g := none) (by kernel_rfl) (by kernel_rfl) (by kernel_rfl) (Does.call (Φ := fun v' G' Γ' => ∃ (AR62p0 : Option Addr), ∃ (cR62p0 : Nat), ∃ (CR62p0 : Chunk), v' = .int .i64 t60.1 ∧ Ow k36 G AR62p0 cR62p0 t60.2.f0 CR62p0 ∧ G = G' ∧ [(b18, .cells #[.slice AR62p0 t60.2.f0.length cR62p0] 30 (0, 0))] :: CR62p0 :: [(b57, .cells #[.int .i64 ((l0.getD y21.toNat z38).f1), .int .i64 ((l0.getD y21.toNat z38).f2), .int .i64 ((l0.getD y21.toNat z38).f3), .int .i64 ((l0.getD y21.toNat z38).f4), .string ((l0.getD y21.toNat z38).f5)] 36 (0, 0))] :: [(bR12, .cells #[mpv AR53p0_0, mpv AR53p0_1] 97 (0, 0))] :: CR53p0_0 :: CR53p0_1 :: [(bR16, .cells #[mpv AR16_0, mpv AR16_1] 97 (0, 0))] :: CR16_0 :: CR16_1 :: Γ = Γ') (f := 18) (args := [.pointer (some ⟨b18, 0, none⟩), .slice (some ⟨b57, 0, none⟩) ([(⟨(l0.getD y21.toNat z38).f1, (l0.getD y21.toNat z38).f2, (l0.getD y21.toNat z38).f3, (l0.getD y21.toNat z38).f4, (l0.getD y21.toNat z38).f5⟩ : T36)] : List T36).length 1]) (by kernel_rfl) (fun W hI => (Calls.lendN (Φ := fun v' N => ∃ (AR62p0 : Option Addr), ∃ (cR62p0 : Nat), ∃ (CR62p0 : Chunk), v' = .int .i64 t60.1 ∧ Ow k36 G AR62p0 cR62p0 t60.2.f0 CR62p0 ∧ N = [[(b18, .cells #[.slice AR62p0 t60.2.f0.length cR62p0] 30 (0, 0))], CR62p0]) (H := [[(b18, .cells #[.slice Ay22_f0 y22.f0.length cy22_f0] 30 (0, 0))], Cy22_f0]) (i := 0) rfl hI (fun _ e l64 nl64 hI => by subst e; exact (((grapevineref12_Tree_Put_calls (HT.mono l64) kn25 y22 ([(⟨(l0.getD y21.toNat z38).f1, (l0.getD y21.toNat z38).f2, (l0.getD y21.toNat z38).f3, (l0.getD y21.toNat z38).f4, (l0.getD y21.toNat z38).f5⟩ : T36)] : List T36) b18 Ay22_f0 cy22_f0 Cy22_f0 (Hy22_f0.mono l64) (some ⟨b57, 0, none⟩) 1 (Ho59.rdN l64 nl64) t60 ht61 hI)).mono fun _ _ hr => by obtain ⟨_, _, _, rfl, hd, hI⟩ := hr; obtain ⟨AR62p0, cR62p0, CR62p0, rfl, HR62p0, rfl, rfl⟩ := hd; exact ⟨_, _, _, rfl, ⟨[[(b18, .cells #[.slice AR62p0 t60.2.f0.length cR62p0] 30 (0, 0))], CR62p0], ⟨AR62p0, cR62p0, CR62p0, rfl, (HR62p0.flat (kFlat_flat _ _ _ _)), rfl⟩, rfl, rfl⟩, hI⟩))).mono fun _ _ hr => by obtain ⟨_, _, _, rfl, ⟨_, hd, rfl, rfl⟩, hI⟩ := hr; obtain ⟨AR62p0, cR62p0, CR62p0, rfl, HR62p0, rfl⟩ := hd; exact ⟨_, _, _, rfl, ⟨AR62p0, cR62p0, CR62p0, rfl, HR62p0, rfl, rfl⟩, hI⟩)) ?_
            rintro _ _ _ ⟨AR62p0, cR62p0, CR62p0, rfl, HR62p0, rfl, rfl⟩
            refine WL.rest 8 [0, 1, 2, 3, 9, 10, 11, 12] (L' := [(0, .slice Al0 l0.length cl0), (1, .int .i64 a1), (2, .int .i64 a2), (3, .int .i64 a3), (9, .pointer (some ⟨bR12, 0, none⟩)), (10, .pointer (some ⟨bR16, 0, none⟩)), (11, .pointer (some ⟨b18, 0, none⟩)), (12, .int .i64 y21)]) (by kernel_rfl) ?_
            refine QP.blockN ?_
            refine QP.next ?_
            refine WP.pick [0, 1, 2, 3, 9, 10, 11, 12] ?_
            refine WP.regionP [0, 1, 2, 3, 9, 10, 11, 12] (L' := [(0, .slice Al0 l0.length cl0), (1, .int .i64 a1), (2, .int .i64 a2), (3, .int .i64 a3), (9, .pointer (some ⟨bR12, 0, none⟩)), (10, .pointer (some ⟨bR16, 0, none⟩)), (11, .pointer (some ⟨b18, 0, none⟩)), (12, .int .i64 (IntKind.i64.wrap (y21 + 1)))]) (by kernel_rfl) ?_
            refine QP.dropAt 2 ?_
            refine QP.front (i := 4) rfl ?_
            refine QP.front (i := 4) rfl ?_
            refine QP.front (i := 4) rfl ?_
            refine QP.front (i := 7) rfl ?_
            refine QP.front (i := 7) rfl ?_
            refine QP.front (i := 7) rfl ?_
            refine QP.front (i := 6) rfl ?_
            refine QP.front (i := 7) rfl ?_
            refine QP.pick [0, 1, 2, 3, 9, 10, 11, 12] ?_
            exact QP.meet ⟨kn25, Nat.lt_succ_self _, (IntKind.i64.wrap (y21 + 1)), t60.2, t51.2, h, AR62p0, cR62p0, CR62p0, AR53p0_0, cR53p0_0, CR53p0_0, AR53p0_1, cR53p0_1, CR53p0_1, rfl, rfl, rfl, HR62p0, HR53p0_0, HR53p0_1⟩
        · replace hc := of_decide_eq_false hc
          rw [if_neg hc] at h
          have hc26 := hc
          clear hc
          refine WP.exit ?_
          refine QP.thenE ?_
          refine QP.thenE ?_
          refine QP.blockE ?_
          refine QP.front (i := 7) rfl ?_
          refine QP.front (i := 7) rfl ?_
          refine QP.front (i := 7) rfl ?_
          refine QP.front (i := 7) rfl ?_
          refine QP.front (i := 7) rfl ?_
          refine QP.front (i := 7) rfl ?_
          refine QP.front (i := 6) rfl ?_
          refine QP.front (i := 7) rfl ?_
          refine QP.pick [1, 2, 3, 9, 10, 11] ?_
          exact QP.meet ⟨_, Option.some.inj h, Ay22_f0, cy22_f0, Cy22_f0, Ay23_f0, cy23_f0, Cy23_f0, Ay23_f1, cy23_f1, Cy23_f1, rfl, rfl, rfl, Hy22_f0, Hy23_f0, Hy23_f1⟩
    · rintro _ _ _ ⟨s19, rfl, As19_1_f0, cs19_1_f0, Cs19_1_f0, As19_2_f0, cs19_2_f0, Cs19_2_f0, As19_2_f1, cs19_2_f1, Cs19_2_f1, rfl, rfl, rfl, Hs19_1_f0, Hs19_2_f0, Hs19_2_f1⟩
      clear h
      replace h := hk20
      refine QP.next ?_
      refine WP.pick [1, 2, 3, 9, 10, 11] ?_
      refine WP.seq ?_
      refine WP.seqR ?_
      refine WL.pure 0 3 [1, 2, 3, 9, 10, 11, 78] (L' := [(1, .int .i64 a1), (2, .int .i64 a2), (3, .int .i64 a3), (9, .pointer (some ⟨bR12, 0, none⟩)), (10, .pointer (some ⟨bR16, 0, none⟩)), (11, .pointer (some ⟨b18, 0, none⟩)), (78, .pointer (some ⟨b18, 0, none⟩))]) (by kernel_rfl) (by decide) ?_
      refine WL.tell (op := .load 28 (.tmp 78)) (ty := 28) (d := some 79) (g := none) (by kernel_rfl) (by kernel_rfl) (by kernel_rfl) (Tells.load_box (i := 0) (b := b18) (o := 0) (agg := false) (by rfl) ag28 (by kernel_rfl) (fun _ => rfl) (Nat.le_of_ble_eq_true rfl) (v := .slice As19_1_f0 s19.1.f0.length cs19_1_f0) (by kernel_rfl)) ?_
      refine WL.restQ 4 [1, 2, 3, 9, 10, 11, 13] (L' := [(1, .int .i64 a1), (2, .int .i64 a2), (3, .int .i64 a3), (9, .pointer (some ⟨bR12, 0, none⟩)), (10, .pointer (some ⟨bR16, 0, none⟩)), (11, .pointer (some ⟨b18, 0, none⟩)), (13, .int .i64 (IntKind.i64.wrap ((s19.1.f0.length : Int) - 1)))]) (by kernel_rfl) ?_
      obtain ⟨v65, hv66, h⟩ := Option.bind_eq_some_iff.1 h
      replace hv66 := Option.some.inj hv66
      refine WP.reput 13 (v := .int .i64 (IntKind.i64.wrap ((s19.1.f0.length : Int) - 1))) (v' := .int .i64 v65) (by kernel_rfl) (by subst hv66; rfl) ?_
      refine WP.pick [1, 2, 3, 9, 10, 11, 13] ?_
      rw [Option.bind_eq_some_iff] at h
      obtain ⟨os67, h, hk68⟩ := h
      refine WP.cutQ (fun L' G' Γ' => ∃ s67 : T97, Sum.inr s67 = os67 ∧ ∃ (As67_f0 : Option Addr), ∃ (cs67_f0 : Nat), ∃ (Cs67_f0 : Chunk), ∃ (As67_f1 : Option Addr), ∃ (cs67_f1 : Nat), ∃ (Cs67_f1 : Chunk), L' = [(1, .int .i64 a1), (2, .int .i64 a2), (3, .int .i64 a3), (9, .pointer (some ⟨bR12, 0, none⟩)), (10, .pointer (some ⟨bR16, 0, none⟩))] ∧ G = G' ∧ [(bR16, .cells #[mpv As67_f0, mpv As67_f1] 97 (0, 0))] :: Cs67_f0 :: Cs67_f1 :: [(bR12, .cells #[mpv As19_2_f0, mpv As19_2_f1] 97 (0, 0))] :: Cs19_2_f0 :: Cs19_2_f1 :: Γ = Γ' ∧ MpO m94 G As67_f0 cs67_f0 s67.f0 Cs67_f0 ∧ MpO m95 G As67_f1 cs67_f1 s67.f1 Cs67_f1) ?_ ?_
      · skip
        refine WP.block ?_
        refine WP.pick [1, 2, 3, 9, 10, 11, 13] ?_
        refine WP.loopF (fun kn71 L' G' Γ' => ∃ (y69 : Int), ∃ (y70 : T97), grapevinelaw12_TreeAnew_l1 s19 kn71 y69 y70 = some os67 ∧ ∃ (Ay70_f0 : Option Addr), ∃ (cy70_f0 : Nat), ∃ (Cy70_f0 : Chunk), ∃ (Ay70_f1 : Option Addr), ∃ (cy70_f1 : Nat), ∃ (Cy70_f1 : Chunk), L' = [(1, .int .i64 a1), (2, .int .i64 a2), (3, .int .i64 a3), (9, .pointer (some ⟨bR12, 0, none⟩)), (10, .pointer (some ⟨bR16, 0, none⟩)), (11, .pointer (some ⟨b18, 0, none⟩)), (13, .int .i64 y69)] ∧ G = G' ∧ [(b18, .cells #[.slice As19_1_f0 s19.1.f0.length cs19_1_f0] 30 (0, 0))] :: Cs19_1_f0 :: [(bR16, .cells #[mpv Ay70_f0, mpv Ay70_f1] 97 (0, 0))] :: Cy70_f0 :: Cy70_f1 :: [(bR12, .cells #[mpv As19_2_f0, mpv As19_2_f1] 97 (0, 0))] :: Cs19_2_f0 :: Cs19_2_f1 :: Γ = Γ' ∧ MpO m94 G Ay70_f0 cy70_f0 y70.f0 Cy70_f0 ∧ MpO m95 G Ay70_f1 cy70_f1 y70.f1 Cy70_f1) ?_ k ⟨v65, t14, h, AR16_0, cR16_0, CR16_0, AR16_1, cR16_1, CR16_1, rfl, rfl, rfl, HR16_0, HR16_1⟩
        clear h
        rintro kn72 _ _ _ ⟨y69, y70, h, Ay70_f0, cy70_f0, Cy70_f0, Ay70_f1, cy70_f1, Cy70_f1, rfl, rfl, rfl, Hy70_f0, Hy70_f1⟩
        cases kn72 with
        | zero => exact absurd h (by simp [grapevinelaw12_TreeAnew_l1])
        | succ kn72 =>
          simp only [grapevinelaw12_TreeAnew_l1] at h
          refine WP.seq ?_
          refine WP.seqP [1, 2, 3, 9, 10, 11, 13, 83] (L' := [(1, .int .i64 a1), (2, .int .i64 a2), (3, .int .i64 a3), (9, .pointer (some ⟨bR12, 0, none⟩)), (10, .pointer (some ⟨bR16, 0, none⟩)), (11, .pointer (some ⟨b18, 0, none⟩)), (13, .int .i64 y69), (83, .bool (decide (y69 ≥ 0)))]) (by kernel_rfl) ?_
          refine WP.cond (b := decide (y69 ≥ 0)) (by kernel_rfl) (fun hc => ?_) (fun hc => ?_)
          · replace hc := of_decide_eq_true hc
            rw [if_pos hc] at h
            have hc73 := hc
            clear hc
            refine WP.skip ?_
            refine QP.next ?_
            refine WP.pick [1, 2, 3, 9, 10, 11, 13] ?_
            refine WP.seq ?_
            refine WP.block ?_
            refine WP.seqR ?_
            refine WL.pure 0 4 [1, 2, 3, 9, 10, 11, 13, 86, 89] (L' := [(1, .int .i64 a1), (2, .int .i64 a2), (3, .int .i64 a3), (9, .pointer (some ⟨bR12, 0, none⟩)), (10, .pointer (some ⟨bR16, 0, none⟩)), (11, .pointer (some ⟨b18, 0, none⟩)), (13, .int .i64 y69), (86, .pointer (some ⟨bR16, 0, none⟩)), (89, .pointer (some ⟨b18, 0, none⟩))]) (by kernel_rfl) (by decide) ?_
            refine WL.tell (op := .load 28 (.tmp 89)) (ty := 28) (d := some 90) (g := none) (by kernel_rfl) (by kernel_rfl) (by kernel_rfl) (Tells.load_box (i := 0) (b := b18) (o := 0) (agg := false) (by rfl) ag28 (by kernel_rfl) (fun _ => rfl) (Nat.le_of_ble_eq_true rfl) (v := .slice As19_1_f0 s19.1.f0.length cs19_1_f0) (by kernel_rfl)) ?_
            refine WL.pure 5 6 [1, 2, 3, 9, 10, 11, 13, 86, 90, 91] (L' := [(1, .int .i64 a1), (2, .int .i64 a2), (3, .int .i64 a3), (9, .pointer (some ⟨bR12, 0, none⟩)), (10, .pointer (some ⟨bR16, 0, none⟩)), (11, .pointer (some ⟨b18, 0, none⟩)), (13, .int .i64 y69), (86, .pointer (some ⟨bR16, 0, none⟩)), (90, .slice As19_1_f0 s19.1.f0.length cs19_1_f0), (91, .int .i64 y69)]) (by kernel_rfl) (by decide) ?_
            by_cases hb74 : 0 ≤ y69 ∧ y69 < (s19.1.f0.length : Int)
            case neg => rw [if_neg hb74] at h; cases h
            rw [if_pos hb74] at h
            refine WL.tell (op := .indexAddr 28 (.tmp 90) (.tmp 91)) (ty := 0) (d := some 92) (g := none) (by kernel_rfl) (by kernel_rfl) (by kernel_rfl) (Tells.indexAddr (A := As19_1_f0) (n := s19.1.f0.length) (c := cs19_1_f0) (k := .i64) (j := y69) (by kernel_rfl) (by kernel_rfl) (Hs19_1_f0.isSome hb74.1 hb74.2) hb74.1 hb74.2 sl28) ?_
            refine WL.tellE (op := .load 36 (.tmp 92)) (ty := 36) (d := some 93) (g := none) (by kernel_rfl) (by kernel_rfl) (by kernel_rfl) (Hs19_1_f0.load (i := 1) rfl (agg := true) hb74.1 hb74.2 z36 ag36 (fun h => by cases h) (by kernel_rfl)) ?_
            rintro _ rfl
            refine WL.op (op := .buildSlice 28 1 #[(0, (.tmp 93))]) (ty := 28) (d := some 94) (g := none) (by kernel_rfl) (by kernel_rfl) (by kernel_rfl) (Does.new (o := .cells #[.int .i64 ((s19.1.f0.getD y69.toNat z36).f0), .int .i64 ((s19.1.f0.getD y69.toNat z36).f1), .int .i64 ((s19.1.f0.getD y69.toNat z36).f2), .int .i64 ((s19.1.f0.getD y69.toNat z36).f3), .string ((s19.1.f0.getD y69.toNat z36).f4)] 36 (0, 0)) (v := fun r => .slice (some ⟨r, 0, none⟩) 1 1) (fun r => by kernel_rfl)) ?_
            rintro _ _ _ ⟨b75, rfl, rfl, rfl⟩
            have Ho77 : Ow k36 G (some ⟨b75, 0, none⟩) 1 ([(s19.1.f0.getD y69.toNat z36)] : List T36) [(b75, .cells #[.int .i64 ((s19.1.f0.getD y69.toNat z36).f0), .int .i64 ((s19.1.f0.getD y69.toNat z36).f1), .int .i64 ((s19.1.f0.getD y69.toNat z36).f2), .int .i64 ((s19.1.f0.getD y69.toNat z36).f3), .string ((s19.1.f0.getD y69.toNat z36).f4)] 36 (0, 0))] := Ow.lit (kd := k36) (G := G) (b := b75) (T := 36) (xs := ([(s19.1.f0.getD y69.toNat z36)] : List T36)) (cs := [.int .i64 ((s19.1.f0.getD y69.toNat z36).f0), .int .i64 ((s19.1.f0.getD y69.toNat z36).f1), .int .i64 ((s19.1.f0.getD y69.toNat z36).f2), .int .i64 ((s19.1.f0.getD y69.toNat z36).f3), .string ((s19.1.f0.getD y69.toNat z36).f4)]) (.cons (x := (s19.1.f0.getD y69.toNat z36)) (cs := [.int .i64 ((s19.1.f0.getD y69.toNat z36).f0), .int .i64 ((s19.1.f0.getD y69.toNat z36).f1), .int .i64 ((s19.1.f0.getD y69.toNat z36).f2), .int .i64 ((s19.1.f0.getD y69.toNat z36).f3), .string ((s19.1.f0.getD y69.toNat z36).f4)]) (by exact rfl) .nil)
            refine WL.front (i := 5) rfl ?_
            refine WL.front (i := 5) rfl ?_
            refine WL.front (i := 5) rfl ?_
            rw [Option.bind_eq_some_iff] at h
            obtain ⟨t78, ht79, h⟩ := h
            refine WL.op (op := .call { callee := (.value (.func 17)), args := #[(.tmp 86), (.tmp 94)], argTypes := #[25, 28] }) (ty := 3) (d := some 95) (g := none) (by kernel_rfl) (by kernel_rfl) (by kernel_rfl) (Does.call (Φ := fun v' G' Γ' => ∃ (AR80p0_0 : Option Addr), ∃ (cR80p0_0 : Nat), ∃ (CR80p0_0 : Chunk), ∃ (AR80p0_1 : Option Addr), ∃ (cR80p0_1 : Nat), ∃ (CR80p0_1 : Chunk), v' = .int .i64 t78.1 ∧ MpO m94 G AR80p0_0 cR80p0_0 t78.2.f0 CR80p0_0 ∧ MpO m95 G AR80p0_1 cR80p0_1 t78.2.f1 CR80p0_1 ∧ G = G' ∧ [(bR16, .cells #[mpv AR80p0_0, mpv AR80p0_1] 97 (0, 0))] :: CR80p0_0 :: CR80p0_1 :: [(b75, .cells #[.int .i64 ((s19.1.f0.getD y69.toNat z36).f0), .int .i64 ((s19.1.f0.getD y69.toNat z36).f1), .int .i64 ((s19.1.f0.getD y69.toNat z36).f2), .int .i64 ((s19.1.f0.getD y69.toNat z36).f3), .string ((s19.1.f0.getD y69.toNat z36).f4)] 36 (0, 0))] :: [(b18, .cells #[.slice As19_1_f0 s19.1.f0.length cs19_1_f0] 30 (0, 0))] :: Cs19_1_f0 :: [(bR12, .cells #[mpv As19_2_f0, mpv As19_2_f1] 97 (0, 0))] :: Cs19_2_f0 :: Cs19_2_f1 :: Γ = Γ') (f := 17) (args := [.pointer (some ⟨bR16, 0, none⟩), .slice (some ⟨b75, 0, none⟩) ([(s19.1.f0.getD y69.toNat z36)] : List T36).length 1]) (by kernel_rfl) (fun W hI => (Calls.lendN (Φ := fun v' N => ∃ (AR80p0_0 : Option Addr), ∃ (cR80p0_0 : Nat), ∃ (CR80p0_0 : Chunk), ∃ (AR80p0_1 : Option Addr), ∃ (cR80p0_1 : Nat), ∃ (CR80p0_1 : Chunk), v' = .int .i64 t78.1 ∧ MpO m94 G AR80p0_0 cR80p0_0 t78.2.f0 CR80p0_0 ∧ MpO m95 G AR80p0_1 cR80p0_1 t78.2.f1 CR80p0_1 ∧ N = [[(bR16, .cells #[mpv AR80p0_0, mpv AR80p0_1] 97 (0, 0))], CR80p0_0, CR80p0_1]) (H := [[(bR16, .cells #[mpv Ay70_f0, mpv Ay70_f1] 97 (0, 0))], Cy70_f0, Cy70_f1]) (i := 0) rfl hI (fun _ e l82 nl82 hI => by subst e; exact (((tree_Tree_Put_calls (HT.mono l82) kn72 y70 ([(s19.1.f0.getD y69.toNat z36)] : List T36) bR16 Ay70_f0 cy70_f0 Cy70_f0 (Hy70_f0.mono l82) Ay70_f1 cy70_f1 Cy70_f1 (Hy70_f1.mono l82) (some ⟨b75, 0, none⟩) 1 (Ho77.rdN l82 nl82) t78 ht79 hI)).mono fun _ _ hr => by obtain ⟨_, _, _, rfl, hd, hI⟩ := hr; obtain ⟨AR80p0_0, cR80p0_0, CR80p0_0, AR80p0_1, cR80p0_1, CR80p0_1, rfl, HR80p0_0, HR80p0_1, rfl, rfl⟩ := hd; exact ⟨_, _, _, rfl, ⟨[[(bR16, .cells #[mpv AR80p0_0, mpv AR80p0_1] 97 (0, 0))], CR80p0_0, CR80p0_1], ⟨AR80p0_0, cR80p0_0, CR80p0_0, AR80p0_1, cR80p0_1, CR80p0_1, rfl, (HR80p0_0.flat ()), (HR80p0_1.flat ()), rfl⟩, rfl, rfl⟩, hI⟩))).mono fun _ _ hr => by obtain ⟨_, _, _, rfl, ⟨_, hd, rfl, rfl⟩, hI⟩ := hr; obtain ⟨AR80p0_0, cR80p0_0, CR80p0_0, AR80p0_1, cR80p0_1, CR80p0_1, rfl, HR80p0_0, HR80p0_1, rfl⟩ := hd; exact ⟨_, _, _, rfl, ⟨AR80p0_0, cR80p0_0, CR80p0_0, AR80p0_1, cR80p0_1, CR80p0_1, rfl, HR80p0_0, HR80p0_1, rfl, rfl⟩, hI⟩)) ?_
            rintro _ _ _ ⟨AR80p0_0, cR80p0_0, CR80p0_0, AR80p0_1, cR80p0_1, CR80p0_1, rfl, HR80p0_0, HR80p0_1, rfl, rfl⟩
            refine WL.restQ 10 [1, 2, 3, 9, 10, 11, 13, 96] (L' := [(1, .int .i64 a1), (2, .int .i64 a2), (3, .int .i64 a3), (9, .pointer (some ⟨bR12, 0, none⟩)), (10, .pointer (some ⟨bR16, 0, none⟩)), (11, .pointer (some ⟨b18, 0, none⟩)), (13, .int .i64 y69), (96, .bool (t78.1 != 1))]) (by kernel_rfl) ?_
            refine WP.dropAt 3 ?_
            refine WP.cond (b := (t78.1 != 1)) (by kernel_rfl) (fun hc => ?_) (fun hc => ?_)
            · replace hc := (bne_iff_ne.1 hc)
              rw [if_pos hc] at h
              have hc83 := hc
              clear hc
              refine WP.seqP [8] (L' := [(8, .bool false)]) (by kernel_rfl) ?_
              refine WP.dropAt 7 ?_
              refine WP.dropAt 6 ?_
              refine WP.dropAt 5 ?_
              refine WP.dropAt 4 ?_
              refine WP.dropAt 3 ?_
              refine WP.dropAt 2 ?_
              refine WP.dropAt 1 ?_
              refine WP.dropAt 0 ?_
              refine WP.ret ?_
              refine QP.blockR ?_
              refine QP.thenR ?_
              refine QP.thenR ?_
              refine QP.blockR ?_
              refine QP.thenR ?_
              refine QP.thenR ?_
              obtain rfl := Option.some.inj h
              obtain rfl := Option.some.inj (show some _ = some _ from hk68)
              exact QP.returned [8] [.bool false] _ (by kernel_rfl) (by kernel_rfl) (by kernel_rfl) (fun W hI => ⟨_, _, _, rfl, ⟨rfl, rfl, rfl⟩, hI⟩)
            · replace hc := (not_not_intro (bne_eq_false_iff_eq.1 hc))
              rw [if_neg hc] at h
              have hc83 := hc
              clear hc
              refine WP.skip ?_
              refine QP.blockN ?_
              refine QP.next ?_
              refine WP.pick [1, 2, 3, 9, 10, 11, 13] ?_
              refine WP.regionP [1, 2, 3, 9, 10, 11, 13] (L' := [(1, .int .i64 a1), (2, .int .i64 a2), (3, .int .i64 a3), (9, .pointer (some ⟨bR12, 0, none⟩)), (10, .pointer (some ⟨bR16, 0, none⟩)), (11, .pointer (some ⟨b18, 0, none⟩)), (13, .int .i64 (IntKind.i64.wrap (y69 - 1)))]) (by kernel_rfl) ?_
              refine QP.front (i := 7) rfl ?_
              refine QP.front (i := 7) rfl ?_
              refine QP.front (i := 7) rfl ?_
              refine QP.front (i := 5) rfl ?_
              refine QP.front (i := 5) rfl ?_
              refine QP.front (i := 5) rfl ?_
              refine QP.front (i := 7) rfl ?_
              refine QP.front (i := 7) rfl ?_
              refine QP.pick [1, 2, 3, 9, 10, 11, 13] ?_
              exact QP.meet ⟨kn72, Nat.lt_succ_self _, (IntKind.i64.wrap (y69 - 1)), t78.2, h, AR80p0_0, cR80p0_0, CR80p0_0, AR80p0_1, cR80p0_1, CR80p0_1, rfl, rfl, rfl, HR80p0_0, HR80p0_1⟩
          · replace hc := of_decide_eq_false hc
            rw [if_neg hc] at h
            have hc73 := hc
            clear hc
            refine WP.exit ?_
            refine QP.thenE ?_
            refine QP.thenE ?_
            refine QP.blockE ?_
            refine QP.dropAt 1 ?_
            refine QP.dropAt 0 ?_
            refine QP.pick [1, 2, 3, 9, 10] ?_
            exact QP.meet ⟨_, Option.some.inj h, Ay70_f0, cy70_f0, Cy70_f0, Ay70_f1, cy70_f1, Cy70_f1, rfl, rfl, rfl, Hy70_f0, Hy70_f1⟩
      · rintro _ _ _ ⟨s67, rfl, As67_f0, cs67_f0, Cs67_f0, As67_f1, cs67_f1, Cs67_f1, rfl, rfl, rfl, Hs67_f0, Hs67_f1⟩
        clear h
        replace h := hk68
        dsimp only at h
        refine QP.next ?_
        refine WP.pick [1, 2, 3, 9, 10] ?_
        refine WP.seqR ?_
        refine WL.pure 0 4 [1, 2, 3, 9, 10, 98, 99, 100, 101] (L' := [(1, .int .i64 a1), (2, .int .i64 a2), (3, .int .i64 a3), (9, .pointer (some ⟨bR12, 0, none⟩)), (10, .pointer (some ⟨bR16, 0, none⟩)), (98, .pointer (some ⟨bR12, 0, none⟩)), (99, .int .i64 a1), (100, .int .i64 a2), (101, .int .i64 a3)]) (by kernel_rfl) (by decide) ?_
        refine WL.front (i := 5) rfl ?_
        refine WL.front (i := 5) rfl ?_
        refine WL.front (i := 5) rfl ?_
        rw [Option.bind_eq_some_iff] at h
        obtain ⟨t84, ht85, h⟩ := h
        refine WL.op (op := .call { callee := (.value (.func 19)), args := #[(.tmp 98), (.tmp 99), (.tmp 100), (.tmp 101)], argTypes := #[25, 3, 3, 3] }) (ty := 45) (d := some 102) (g := none) (by kernel_rfl) (by kernel_rfl) (by kernel_rfl) (Does.call (f := 19) (args := [.pointer (some ⟨bR12, 0, none⟩), .int .i64 a1, .int .i64 a2, .int .i64 a3]) (by kernel_rfl) (fun W hI => (tree_Tree_Sum_calls k s19.2 a1 a2 a3 bR12 As19_2_f0 cs19_2_f0 Cs19_2_f0 Hs19_2_f0 As19_2_f1 cs19_2_f1 Cs19_2_f1 Hs19_2_f1 t84 ht85 hI))) ?_
        rintro _ _ _ ⟨rfl, rfl, rfl⟩
        refine WL.restQ 5 [1, 2, 3, 9, 10, 14, 15] (L' := [(1, .int .i64 a1), (2, .int .i64 a2), (3, .int .i64 a3), (9, .pointer (some ⟨bR12, 0, none⟩)), (10, .pointer (some ⟨bR16, 0, none⟩)), (14, .int .u64 t84.1), (15, .bool t84.2)]) (by kernel_rfl) ?_
        refine WP.seqR ?_
        refine WL.pure 0 4 [9, 10, 14, 15, 106, 107, 108, 109] (L' := [(9, .pointer (some ⟨bR12, 0, none⟩)), (10, .pointer (some ⟨bR16, 0, none⟩)), (14, .int .u64 t84.1), (15, .bool t84.2), (106, .pointer (some ⟨bR16, 0, none⟩)), (107, .int .i64 a1), (108, .int .i64 a2), (109, .int .i64 a3)]) (by kernel_rfl) (by decide) ?_
        refine WL.front (i := 5) rfl ?_
        refine WL.front (i := 5) rfl ?_
        refine WL.front (i := 5) rfl ?_
        rw [Option.bind_eq_some_iff] at h
        obtain ⟨t88, ht89, h⟩ := h
        refine WL.op (op := .call { callee := (.value (.func 19)), args := #[(.tmp 106), (.tmp 107), (.tmp 108), (.tmp 109)], argTypes := #[25, 3, 3, 3] }) (ty := 45) (d := some 110) (g := none) (by kernel_rfl) (by kernel_rfl) (by kernel_rfl) (Does.call (f := 19) (args := [.pointer (some ⟨bR16, 0, none⟩), .int .i64 a1, .int .i64 a2, .int .i64 a3]) (by kernel_rfl) (fun W hI => (tree_Tree_Sum_calls k s67 a1 a2 a3 bR16 As67_f0 cs67_f0 Cs67_f0 Hs67_f0 As67_f1 cs67_f1 Cs67_f1 Hs67_f1 t88 ht89 hI))) ?_
        rintro _ _ _ ⟨rfl, rfl, rfl⟩
        refine WL.restQ 5 [9, 10, 14, 15, 16, 17] (L' := [(9, .pointer (some ⟨bR12, 0, none⟩)), (10, .pointer (some ⟨bR16, 0, none⟩)), (14, .int .u64 t84.1), (15, .bool t84.2), (16, .int .u64 t88.1), (17, .bool t88.2)]) (by kernel_rfl) ?_
        rw [Option.bind_eq_some_iff] at h
        obtain ⟨os92, h, hk93⟩ := h
        refine WP.cut (fun L' G' Γ' => ∃ s92 : Bool, s92 = os92 ∧ L' = [(8, .bool s92)] ∧ G = G' ∧ Γ = Γ') ?_ ?_
        · clear hk93
          refine WP.region ?_
          refine WL.pure 0 4 [9, 10, 15, 17, 116] (L' := [(9, .pointer (some ⟨bR12, 0, none⟩)), (10, .pointer (some ⟨bR16, 0, none⟩)), (15, .bool t84.2), (17, .bool t88.2), (116, .bool (t84.1 == t88.1))]) (by kernel_rfl) (by decide) ?_
          refine WL.split 116 (b := (t84.1 == t88.1)) (by kernel_rfl) (fun hc => ?_) (fun hc => ?_)
          · replace hc := eq_of_beq hc
            rw [if_pos hc] at h
            have hc94 := hc
            clear hc
            refine WL.pure 4 9 [9, 10, 121] (L' := [(9, .pointer (some ⟨bR12, 0, none⟩)), (10, .pointer (some ⟨bR16, 0, none⟩)), (121, .bool (t84.2 == t88.2))]) (by kernel_rfl) (by decide) ?_
            refine WL.split 121 (b := (t84.2 == t88.2)) (by kernel_rfl) (fun hc => ?_) (fun hc => ?_)
            · replace hc := hc
              rw [if_pos hc] at h
              have hc95 := hc
              clear hc
              refine WL.pure 9 10 [9, 10, 121, 122] (L' := [(9, .pointer (some ⟨bR12, 0, none⟩)), (10, .pointer (some ⟨bR16, 0, none⟩)), (121, .bool true), (122, .pointer (some ⟨bR12, 0, none⟩))]) (by kernel_rfl) (by decide) ?_
              refine WL.front (i := 5) rfl ?_
              refine WL.front (i := 5) rfl ?_
              refine WL.front (i := 5) rfl ?_
              rw [Option.bind_eq_some_iff] at h
              obtain ⟨t96, ht97, h⟩ := h
              refine WL.op (op := .call { callee := (.value (.func 22)), args := #[(.tmp 122)], argTypes := #[25] }) (ty := 44) (d := some 123) (g := some (8, true)) (by kernel_rfl) (by kernel_rfl) (by kernel_rfl) (Does.call (f := 22) (args := [.pointer (some ⟨bR12, 0, none⟩)]) (by kernel_rfl) (fun W hI => (tree_Tree_Root_calls k s19.2 bR12 As19_2_f0 cs19_2_f0 Cs19_2_f0 Hs19_2_f0 As19_2_f1 cs19_2_f1 Cs19_2_f1 Hs19_2_f1 t96 ht97 hI))) ?_
              rintro _ _ _ ⟨rfl, rfl, rfl⟩
              refine WL.pure 11 12 [9, 10, 121, 123, 124] (L' := [(9, .pointer (some ⟨bR12, 0, none⟩)), (10, .pointer (some ⟨bR16, 0, none⟩)), (121, .bool true), (123, .int .u64 t96), (124, .pointer (some ⟨bR16, 0, none⟩))]) (by kernel_rfl) (by decide) ?_
              refine WL.front (i := 5) rfl ?_
              refine WL.front (i := 5) rfl ?_
              refine WL.front (i := 5) rfl ?_
              rw [Option.bind_eq_some_iff] at h
              obtain ⟨t100, ht101, h⟩ := h
              refine WL.op (op := .call { callee := (.value (.func 22)), args := #[(.tmp 124)], argTypes := #[25] }) (ty := 44) (d := some 125) (g := some (8, true)) (by kernel_rfl) (by kernel_rfl) (by kernel_rfl) (Does.call (f := 22) (args := [.pointer (some ⟨bR16, 0, none⟩)]) (by kernel_rfl) (fun W hI => (tree_Tree_Root_calls k s67 bR16 As67_f0 cs67_f0 Cs67_f0 Hs67_f0 As67_f1 cs67_f1 Cs67_f1 Hs67_f1 t100 ht101 hI))) ?_
              rintro _ _ _ ⟨rfl, rfl, rfl⟩
              refine WL.pure 13 16 [9, 10, 128] (L' := [(9, .pointer (some ⟨bR12, 0, none⟩)), (10, .pointer (some ⟨bR16, 0, none⟩)), (128, .bool (t96 == t100))]) (by kernel_rfl) (by decide) ?_
              refine WL.split 128 (b := (t96 == t100)) (by kernel_rfl) (fun hc => ?_) (fun hc => ?_)
              · replace hc := eq_of_beq hc
                rw [if_pos hc] at h
                have hc104 := hc
                clear hc
                refine WL.pure 16 18 [9, 10, 128, 129, 130] (L' := [(9, .pointer (some ⟨bR12, 0, none⟩)), (10, .pointer (some ⟨bR16, 0, none⟩)), (128, .bool true), (129, .pointer (some ⟨bR12, 0, none⟩)), (130, .pointer (some ⟨bR16, 0, none⟩))]) (by kernel_rfl) (by decide) ?_
                refine WL.front (i := 2) rfl ?_
                refine WL.front (i := 2) rfl ?_
                refine WL.front (i := 2) rfl ?_
                refine WL.front (i := 5) rfl ?_
                refine WL.front (i := 5) rfl ?_
                refine WL.front (i := 5) rfl ?_
                rw [Option.bind_eq_some_iff] at h
                obtain ⟨t105, ht106, h⟩ := h
                refine WL.op (op := .call { callee := (.value (.func 24)), args := #[(.tmp 129), (.tmp 130)], argTypes := #[25, 25] }) (ty := 4) (d := some 131) (g := some (15, true)) (by kernel_rfl) (by kernel_rfl) (by kernel_rfl) (Does.call (f := 24) (args := [.pointer (some ⟨bR12, 0, none⟩), .pointer (some ⟨bR16, 0, none⟩)]) (by kernel_rfl) (fun W hI => (tree_Same_calls k s19.2 s67 bR12 As19_2_f0 cs19_2_f0 Cs19_2_f0 Hs19_2_f0 As19_2_f1 cs19_2_f1 Cs19_2_f1 Hs19_2_f1 bR16 As67_f0 cs67_f0 Cs67_f0 Hs67_f0 As67_f1 cs67_f1 Cs67_f1 Hs67_f1 t105 ht106 hI))) ?_
                rintro _ _ _ ⟨rfl, rfl, rfl⟩
                refine WL.pure 19 21 [9, 10, 133] (L' := [(9, .pointer (some ⟨bR12, 0, none⟩)), (10, .pointer (some ⟨bR16, 0, none⟩)), (133, .bool t105)]) (by kernel_rfl) (by decide) ?_
                refine WL.split 133 (b := t105) (by kernel_rfl) (fun hc => ?_) (fun hc => ?_)
                · replace hc := hc
                  rw [if_pos hc] at h
                  have hc109 := hc
                  clear hc
                  refine WL.pure 21 22 [10, 133, 134] (L' := [(10, .pointer (some ⟨bR16, 0, none⟩)), (133, .bool true), (134, .pointer (some ⟨bR12, 0, none⟩))]) (by kernel_rfl) (by decide) ?_
                  refine WL.front (i := 2) rfl ?_
                  refine WL.front (i := 2) rfl ?_
                  refine WL.front (i := 2) rfl ?_
                  rw [Option.bind_eq_some_iff] at h
                  obtain ⟨t110, ht111, h⟩ := h
                  refine WL.op (op := .call { callee := (.value (.func 21)), args := #[(.tmp 134)], argTypes := #[25] }) (ty := 3) (d := some 135) (g := some (20, true)) (by kernel_rfl) (by kernel_rfl) (by kernel_rfl) (Does.call (f := 21) (args := [.pointer (some ⟨bR12, 0, none⟩)]) (by kernel_rfl) (fun W hI => (tree_Tree_Len_calls s19.2 bR12 As19_2_f0 cs19_2_f0 Cs19_2_f0 Hs19_2_f0 As19_2_f1 cs19_2_f1 Cs19_2_f1 Hs19_2_f1 t110 ht111 hI))) ?_
                  rintro _ _ _ ⟨rfl, rfl, rfl⟩
                  refine WL.pure 23 24 [133, 135, 136] (L' := [(133, .bool true), (135, .int .i64 t110), (136, .pointer (some ⟨bR16, 0, none⟩))]) (by kernel_rfl) (by decide) ?_
                  refine WL.front (i := 5) rfl ?_
                  refine WL.front (i := 5) rfl ?_
                  refine WL.front (i := 5) rfl ?_
                  rw [Option.bind_eq_some_iff] at h
                  obtain ⟨t114, ht115, h⟩ := h
                  refine WL.op (op := .call { callee := (.value (.func 21)), args := #[(.tmp 136)], argTypes := #[25] }) (ty := 3) (d := some 137) (g := some (20, true)) (by kernel_rfl) (by kernel_rfl) (by kernel_rfl) (Does.call (f := 21) (args := [.pointer (some ⟨bR16, 0, none⟩)]) (by kernel_rfl) (fun W hI => (tree_Tree_Len_calls s67 bR16 As67_f0 cs67_f0 Cs67_f0 Hs67_f0 As67_f1 cs67_f1 Cs67_f1 Hs67_f1 t114 ht115 hI))) ?_
                  rintro _ _ _ ⟨rfl, rfl, rfl⟩
                  refine WL.pure 25 28 [140] (L' := [(140, .bool (t110 == t114))]) (by kernel_rfl) (by decide) ?_
                  refine WL.split 140 (b := (t110 == t114)) (by kernel_rfl) (fun hc => ?_) (fun hc => ?_)
                  · replace hc := eq_of_beq hc
                    rw [if_pos hc] at h
                    have hc118 := hc
                    clear hc
                    rw [Option.bind_eq_some_iff] at h
                    obtain ⟨t119, ht120, h⟩ := h
                    refine WL.op (op := .call { callee := (.value (.func 13)), args := #[], argTypes := #[] }) (ty := 4) (d := some 141) (g := some (27, true)) (by kernel_rfl) (by kernel_rfl) (by kernel_rfl) (Does.call (f := 13) (args := []) (by kernel_rfl) (fun W hI => (grapevinelaw12_awake_calls HT k   t119 ht120 hI))) ?_
                    rintro _ _ _ ⟨rfl, rfl, rfl⟩
                    refine WL.rest 29 [8] (L' := [(8, .bool t119)]) (by kernel_rfl) ?_
                    refine QP.dropAt 5 ?_
                    refine QP.dropAt 4 ?_
                    refine QP.dropAt 3 ?_
                    refine QP.dropAt 2 ?_
                    refine QP.dropAt 1 ?_
                    refine QP.dropAt 0 ?_
                    refine QP.pick [8] ?_
                    exact QP.meet ⟨_, Option.some.inj h, rfl, rfl, rfl⟩
                  · replace hc := ne_of_beq_false hc
                    rw [if_neg hc] at h
                    have hc118 := hc
                    clear hc
                    refine WL.rest 28 [8] (L' := [(8, .bool false)]) (by kernel_rfl) ?_
                    refine QP.dropAt 5 ?_
                    refine QP.dropAt 4 ?_
                    refine QP.dropAt 3 ?_
                    refine QP.dropAt 2 ?_
                    refine QP.dropAt 1 ?_
                    refine QP.dropAt 0 ?_
                    refine QP.pick [8] ?_
                    exact QP.meet ⟨_, Option.some.inj h, rfl, rfl, rfl⟩
                · replace hc := (Bool.eq_false_iff.1 hc)
                  rw [if_neg hc] at h
                  have hc109 := hc
                  clear hc
                  refine WL.rest 21 [8] (L' := [(8, .bool false)]) (by kernel_rfl) ?_
                  refine QP.dropAt 5 ?_
                  refine QP.dropAt 4 ?_
                  refine QP.dropAt 3 ?_
                  refine QP.dropAt 2 ?_
                  refine QP.dropAt 1 ?_
                  refine QP.dropAt 0 ?_
                  refine QP.pick [8] ?_
                  exact QP.meet ⟨_, Option.some.inj h, rfl, rfl, rfl⟩
              · replace hc := ne_of_beq_false hc
                rw [if_neg hc] at h
                have hc104 := hc
                clear hc
                refine WL.rest 16 [8] (L' := [(8, .bool false)]) (by kernel_rfl) ?_
                refine QP.dropAt 5 ?_
                refine QP.dropAt 4 ?_
                refine QP.dropAt 3 ?_
                refine QP.dropAt 2 ?_
                refine QP.dropAt 1 ?_
                refine QP.dropAt 0 ?_
                refine QP.pick [8] ?_
                exact QP.meet ⟨_, Option.some.inj h, rfl, rfl, rfl⟩
            · replace hc := (Bool.eq_false_iff.1 hc)
              rw [if_neg hc] at h
              have hc95 := hc
              clear hc
              refine WL.rest 9 [8] (L' := [(8, .bool false)]) (by kernel_rfl) ?_
              refine QP.dropAt 5 ?_
              refine QP.dropAt 4 ?_
              refine QP.dropAt 3 ?_
              refine QP.dropAt 2 ?_
              refine QP.dropAt 1 ?_
              refine QP.dropAt 0 ?_
              refine QP.pick [8] ?_
              exact QP.meet ⟨_, Option.some.inj h, rfl, rfl, rfl⟩
          · replace hc := ne_of_beq_false hc
            rw [if_neg hc] at h
            have hc94 := hc
            clear hc
            refine WL.rest 4 [8] (L' := [(8, .bool false)]) (by kernel_rfl) ?_
            refine QP.dropAt 5 ?_
            refine QP.dropAt 4 ?_
            refine QP.dropAt 3 ?_
            refine QP.dropAt 2 ?_
            refine QP.dropAt 1 ?_
            refine QP.dropAt 0 ?_
            refine QP.pick [8] ?_
            exact QP.meet ⟨_, Option.some.inj h, rfl, rfl, rfl⟩
        · rintro _ _ _ ⟨s92, rfl, rfl, rfl, rfl⟩
          clear h
          replace h := hk93
          refine WP.ret ?_
          obtain rfl := Option.some.inj h
          exact QP.returned [8] [.bool s92] _ (by kernel_rfl) (by kernel_rfl) (by kernel_rfl) (fun W hI => ⟨_, _, _, rfl, ⟨rfl, rfl, rfl⟩, hI⟩)
/-- The plain law. -/
def TreeAnew_Pure : Prop := ∀ (l0 : List T38) (a1 : Int) (a2 : Int) (a3 : Int), (l0.length ≤ maxLen ∧ ∀ z0 ∈ l0, (True ∧ (Lit.int .i64 z0.f1).wf = true ∧ (Lit.int .i64 z0.f2).wf = true ∧ (Lit.int .i64 z0.f3).wf = true ∧ (Lit.int .i64 z0.f4).wf = true ∧ z0.f5.size ≤ maxLen)) → (Lit.int .i64 a1).wf = true → (Lit.int .i64 a2).wf = true → (Lit.int .i64 a3).wf = true → ∃ k, grapevinelaw12_TreeAnew k l0 a1 a2 a3 = some true
end Go.Proofs.YtajhihpaccggdaaDoor.Gf
