/- Walks of Go functions: what each tells, as a plain Lean function, and that the Go code comes to it. Written by gg.py of this repo. -/
import Derived.Test.YtajhihpaccggdaaDoorT
import Derived.Test.YtajhihpaccggdaaDoorF0
import Derived.Test.YtajhihpaccggdaaDoorF1
import Derived.Test.YtajhihpaccggdaaDoorF2
import Derived.Test.YtajhihpaccggdaaDoorF4
namespace Go.Proofs.YtajhihpaccggdaaDoor.Gf
open Go Go.Gg
set_option maxRecDepth 100000
set_option linter.unusedVariables false
set_option linter.unusedSimpArgs false

/-! ### grapevine/grapevinelaw12.TreeScript: function 3 -/
noncomputable def grapevinelaw12_TreeScript_l0 (l0 : List T38) (a1 : Int) (a2 : Int) (a3 : Int) : Nat → Int → T30 → T97 → Option (Sum Bool (T30 × T97))
  | 0, _, _, _ => none
  | k + 1, y17, y18, y19 => (if y17 < (l0.length : Int) then (if 0 ≤ y17 ∧ y17 < (l0.length : Int) then (if (l0.getD y17.toNat z38).f0 = true then (((tree_Tree_Drop k y19 ([(⟨(l0.getD y17.toNat z38).f1, (l0.getD y17.toNat z38).f2⟩ : T32), (⟨(l0.getD y17.toNat z38).f1, (l0.getD y17.toNat z38).f2⟩ : T32)] : List T32)).bind fun t31 => ((grapevineref12_Tree_Drop k y18 ([(⟨(l0.getD y17.toNat z38).f1, (l0.getD y17.toNat z38).f2⟩ : T32), (⟨(l0.getD y17.toNat z38).f1, (l0.getD y17.toNat z38).f2⟩ : T32)] : List T32)).bind fun t39 => some ((t31.1 != t39.1), t39.2, t31.2))).bind fun s26 => (if s26.1 = true then some (Sum.inl false) else ((tree_Tree_Sum k s26.2.2 a1 a2 a3).bind fun t45 => ((grapevineref12_Tree_Sum k s26.2.1 a1 a2 a3).bind fun t49 => ((if ¬ t45.1 = t49.1 then some true else (if (!(t45.2 == t49.2)) = true then some true else ((tree_Tree_Len s26.2.2).bind fun t57 => some (t57 != (s26.2.1.f0.length : Int))))).bind fun s53 => (if s53 = true then some (Sum.inl false) else grapevinelaw12_TreeScript_l0 l0 a1 a2 a3 k (IntKind.i64.wrap (y17 + 1)) s26.2.1 s26.2.2)))))) else (((tree_Tree_Put k y19 ([(⟨(l0.getD y17.toNat z38).f1, (l0.getD y17.toNat z38).f2, (l0.getD y17.toNat z38).f3, (l0.getD y17.toNat z38).f4, (l0.getD y17.toNat z38).f5⟩ : T36), (⟨(l0.getD y17.toNat z38).f1, (l0.getD y17.toNat z38).f2, (l0.getD y17.toNat z38).f3, (l0.getD y17.toNat z38).f4, (l0.getD y17.toNat z38).f5⟩ : T36)] : List T36)).bind fun t67 => ((grapevineref12_Tree_Put k y18 ([(⟨(l0.getD y17.toNat z38).f1, (l0.getD y17.toNat z38).f2, (l0.getD y17.toNat z38).f3, (l0.getD y17.toNat z38).f4, (l0.getD y17.toNat z38).f5⟩ : T36), (⟨(l0.getD y17.toNat z38).f1, (l0.getD y17.toNat z38).f2, (l0.getD y17.toNat z38).f3, (l0.getD y17.toNat z38).f4, (l0.getD y17.toNat z38).f5⟩ : T36)] : List T36)).bind fun t75 => some ((t67.1 != t75.1), t75.2, t67.2))).bind fun s62 => (if s62.1 = true then some (Sum.inl false) else ((tree_Tree_Sum k s62.2.2 a1 a2 a3).bind fun t81 => ((grapevineref12_Tree_Sum k s62.2.1 a1 a2 a3).bind fun t85 => ((if ¬ t81.1 = t85.1 then some true else (if (!(t81.2 == t85.2)) = true then some true else ((tree_Tree_Len s62.2.2).bind fun t93 => some (t93 != (s62.2.1.f0.length : Int))))).bind fun s89 => (if s89 = true then some (Sum.inl false) else grapevinelaw12_TreeScript_l0 l0 a1 a2 a3 k (IntKind.i64.wrap (y17 + 1)) s62.2.1 s62.2.2))))))) else none) else some (Sum.inr (y18, y19)))
noncomputable def grapevinelaw12_TreeScript_l2 (s15 : T30 × T97) (y100 : Int) : Nat → Int → Int → Option (Sum Bool Unit)
  | 0, _, _ => none
  | k + 1, y107, y108 => (if y108 ≥ 0 then (if 0 ≤ y100 ∧ y100 < (s15.1.f0.length : Int) then ((tree_Tree_Sum k s15.2 ((s15.1.f0.getD y100.toNat z36).f0) y108 y107).bind fun t113 => (if 0 ≤ y100 ∧ y100 < (s15.1.f0.length : Int) then ((grapevineref12_Tree_Sum k s15.1 ((s15.1.f0.getD y100.toNat z36).f0) y108 y107).bind fun t118 => (if ¬ t113.1 = t118.1 then some (Sum.inl false) else grapevinelaw12_TreeScript_l2 s15 y100 k (IntKind.i64.wrap (Int.tdiv y107 4)) (IntKind.i64.wrap (y108 - 1)))) else none)) else none) else some (Sum.inr ()))
noncomputable def grapevinelaw12_TreeScript_l1 (s15 : T30 × T97) : Nat → Int → Option (Sum Bool Unit)
  | 0, _ => none
  | k + 1, y100 => (if y100 < (s15.1.f0.length : Int) then (if 0 ≤ y100 ∧ y100 < (s15.1.f0.length : Int) then ((grapevinelaw12_TreeScript_l2 s15 y100 k ((s15.1.f0.getD y100.toNat z36).f1) 5).bind fun os105 => match os105 with | Sum.inl r => some (Sum.inl r) | Sum.inr s105 => grapevinelaw12_TreeScript_l1 s15 k (IntKind.i64.wrap (y100 + 1))) else none) else some (Sum.inr ()))
noncomputable def grapevinelaw12_TreeScript (k : Nat) (l0 : List T38) (a1 : Int) (a2 : Int) (a3 : Int) : Option Bool := ((grapevinelaw12_great k l0 25).bind fun t1 => (if t1 = true then ((grapevinelaw12_awake k ).bind fun t6 => some t6) else ((tree_New ).bind fun t10 => ((grapevinelaw12_TreeScript_l0 l0 a1 a2 a3 k 0 (⟨([] : List T36)⟩ : T30) t10).bind fun os15 => match os15 with | Sum.inl r => some r | Sum.inr s15 => ((grapevinelaw12_TreeScript_l1 s15 k 0).bind fun os98 => match os98 with | Sum.inl r => some r | Sum.inr s98 => (((tree_Tree_Root k s15.2).bind fun t125 => ((grapevineref12_Tree_Root k s15.1).bind fun t129 => (if t125 = t129 then ((grapevinelaw12_awake k ).bind fun t134 => some t134) else some false))).bind fun s123 => some s123))))))
set_option maxHeartbeats 4000000 in
theorem grapevinelaw12_TreeScript_calls {B : World} {G : GMap} {Γ : List Chunk} {W : World} (HT : Tabs B G) (k : Nat) (l0 : List T38) (a1 : Int) (a2 : Int) (a3 : Int) (Al0 : Option Addr) (cl0 : Nat) (Hl0 : Rd k38 G Al0 cl0 l0) (r : Bool) (h : grapevinelaw12_TreeScript k l0 a1 a2 a3 = some r) (hI : Inv B G (Γ) W) :
    Calls Tryd.prog 3 [.slice Al0 l0.length cl0, .int .i64 a1, .int .i64 a2, .int .i64 a3].toArray W (Ret B (fun v G' Γ' => v = .bool r ∧ G = G' ∧ Γ = Γ')) := by
  refine calls_WP (Γ := Γ) (G := G) (B := B) Tryd.func3 rfl (by kernel_rfl) ?_ hI
  clear hI
  unfold grapevinelaw12_TreeScript at h
  refine WP.seqP [0, 1, 2, 3] (L' := [(0, .slice Al0 l0.length cl0), (1, .int .i64 a1), (2, .int .i64 a2), (3, .int .i64 a3)]) (by kernel_rfl) ?_
  refine WP.seq ?_
  refine WP.seqR ?_
  refine WL.pure 0 1 [0, 1, 2, 3, 24] (L' := [(0, .slice Al0 l0.length cl0), (1, .int .i64 a1), (2, .int .i64 a2), (3, .int .i64 a3), (24, .slice Al0 l0.length cl0)]) (by kernel_rfl) (by decide) ?_
  rw [Option.bind_eq_some_iff] at h
  obtain ⟨t1, ht2, h⟩ := h
  refine WL.op (op := .call { callee := (.value (.func 12)), args := #[(.tmp 24), (.const (.int .i64 25))], argTypes := #[22, 3] }) (ty := 4) (d := some 25) (g := none) (by kernel_rfl) (by kernel_rfl) (by kernel_rfl) (Does.call (f := 12) (args := [.slice Al0 l0.length cl0, .int .i64 25]) (by kernel_rfl) (fun W hI => (grapevinelaw12_great_calls k l0 25 Al0 cl0 Hl0 t1 ht2 hI))) ?_
  rintro _ _ _ ⟨rfl, rfl, rfl⟩
  refine WL.restQ 2 [0, 1, 2, 3, 25] (L' := [(0, .slice Al0 l0.length cl0), (1, .int .i64 a1), (2, .int .i64 a2), (3, .int .i64 a3), (25, .bool t1)]) (by kernel_rfl) ?_
  refine WP.cond (b := t1) (by kernel_rfl) (fun hc => ?_) (fun hc => ?_)
  · replace hc := hc
    rw [if_pos hc] at h
    have hc5 := hc
    clear hc
    refine WP.seqR ?_
    rw [Option.bind_eq_some_iff] at h
    obtain ⟨t6, ht7, h⟩ := h
    refine WL.op (op := .call { callee := (.value (.func 13)), args := #[], argTypes := #[] }) (ty := 4) (d := some 26) (g := none) (by kernel_rfl) (by kernel_rfl) (by kernel_rfl) (Does.call (f := 13) (args := []) (by kernel_rfl) (fun W hI => (grapevinelaw12_awake_calls HT k   t6 ht7 hI))) ?_
    rintro _ _ _ ⟨rfl, rfl, rfl⟩
    refine WL.restQ 1 [8] (L' := [(8, .bool t6)]) (by kernel_rfl) ?_
    refine WP.ret ?_
    refine QP.thenR ?_
    obtain rfl := Option.some.inj h
    exact QP.returned [8] [.bool t6] _ (by kernel_rfl) (by kernel_rfl) (by kernel_rfl) (fun W hI => ⟨_, _, _, rfl, ⟨rfl, rfl, rfl⟩, hI⟩)
  · replace hc := (Bool.eq_false_iff.1 hc)
    rw [if_neg hc] at h
    have hc5 := hc
    clear hc
    refine WP.skip ?_
    refine QP.next ?_
    refine WP.pick [0, 1, 2, 3] ?_
    refine WP.seqR ?_
    rw [Option.bind_eq_some_iff] at h
    obtain ⟨t10, ht11, h⟩ := h
    refine WL.op (op := .call { callee := (.value (.func 14)), args := #[], argTypes := #[] }) (ty := 25) (d := some 27) (g := none) (by kernel_rfl) (by kernel_rfl) (by kernel_rfl) (Does.call (f := 14) (args := []) (by kernel_rfl) (fun W hI => (tree_New_calls   t10 ht11 hI))) ?_
    rintro _ _ _ ⟨bR12, AR12_0, cR12_0, CR12_0, AR12_1, cR12_1, CR12_1, rfl, HR12_0, HR12_1, rfl, rfl⟩
    refine WL.pure 1 2 [0, 1, 2, 3, 27, 28] (L' := [(0, .slice Al0 l0.length cl0), (1, .int .i64 a1), (2, .int .i64 a2), (3, .int .i64 a3), (27, .pointer (some ⟨bR12, 0, none⟩)), (28, .agg #[.slice none 0 0])]) (by kernel_rfl) (by decide) ?_
    refine WL.op (op := .box 30 (.tmp 28)) (ty := 27) (d := some 29) (g := none) (by kernel_rfl) (by kernel_rfl) (by kernel_rfl) (Does.new (o := .cells #[.slice none 0 0] 30 (0, 0)) (v := fun r => .pointer (some ⟨r, 0, none⟩)) (fun r => by kernel_rfl)) ?_
    rintro _ _ _ ⟨b14, rfl, rfl, rfl⟩
    refine WL.restQ 3 [0, 1, 2, 3, 9, 10] (L' := [(0, .slice Al0 l0.length cl0), (1, .int .i64 a1), (2, .int .i64 a2), (3, .int .i64 a3), (9, .pointer (some ⟨bR12, 0, none⟩)), (10, .pointer (some ⟨b14, 0, none⟩))]) (by kernel_rfl) ?_
    refine WP.seq ?_
    refine WP.seqP [0, 1, 2, 3, 9, 10, 31] (L' := [(0, .slice Al0 l0.length cl0), (1, .int .i64 a1), (2, .int .i64 a2), (3, .int .i64 a3), (9, .pointer (some ⟨bR12, 0, none⟩)), (10, .pointer (some ⟨b14, 0, none⟩)), (31, .bool false)]) (by kernel_rfl) ?_
    refine WP.no (by kernel_rfl) ?_
    refine WP.skip ?_
    refine QP.next ?_
    refine WP.pick [0, 1, 2, 3, 9, 10] ?_
    refine WP.seq ?_
    refine WP.seqP [0, 1, 2, 3, 9, 10, 11] (L' := [(0, .slice Al0 l0.length cl0), (1, .int .i64 a1), (2, .int .i64 a2), (3, .int .i64 a3), (9, .pointer (some ⟨bR12, 0, none⟩)), (10, .pointer (some ⟨b14, 0, none⟩)), (11, .int .i64 0)]) (by kernel_rfl) ?_
    rw [Option.bind_eq_some_iff] at h
    obtain ⟨os15, h, hk16⟩ := h
    refine WP.cutQ (fun L' G' Γ' => ∃ s15 : T30 × T97, Sum.inr s15 = os15 ∧ ∃ (As15_1_f0 : Option Addr), ∃ (cs15_1_f0 : Nat), ∃ (Cs15_1_f0 : Chunk), ∃ (As15_2_f0 : Option Addr), ∃ (cs15_2_f0 : Nat), ∃ (Cs15_2_f0 : Chunk), ∃ (As15_2_f1 : Option Addr), ∃ (cs15_2_f1 : Nat), ∃ (Cs15_2_f1 : Chunk), L' = [(9, .pointer (some ⟨bR12, 0, none⟩)), (10, .pointer (some ⟨b14, 0, none⟩))] ∧ G = G' ∧ [(b14, .cells #[.slice As15_1_f0 s15.1.f0.length cs15_1_f0] 30 (0, 0))] :: Cs15_1_f0 :: [(bR12, .cells #[mpv As15_2_f0, mpv As15_2_f1] 97 (0, 0))] :: Cs15_2_f0 :: Cs15_2_f1 :: Γ = Γ' ∧ Ow k36 G As15_1_f0 cs15_1_f0 s15.1.f0 Cs15_1_f0 ∧ MpO m94 G As15_2_f0 cs15_2_f0 s15.2.f0 Cs15_2_f0 ∧ MpO m95 G As15_2_f1 cs15_2_f1 s15.2.f1 Cs15_2_f1) ?_ ?_
    · skip
      refine WP.block ?_
      refine WP.addNil ?_
      refine WP.pick [0, 1, 2, 3, 9, 10, 11] ?_
      refine WP.loopF (fun kn20 L' G' Γ' => ∃ (y17 : Int), ∃ (y18 : T30), ∃ (y19 : T97), grapevinelaw12_TreeScript_l0 l0 a1 a2 a3 kn20 y17 y18 y19 = some os15 ∧ ∃ (Ay18_f0 : Option Addr), ∃ (cy18_f0 : Nat), ∃ (Cy18_f0 : Chunk), ∃ (Ay19_f0 : Option Addr), ∃ (cy19_f0 : Nat), ∃ (Cy19_f0 : Chunk), ∃ (Ay19_f1 : Option Addr), ∃ (cy19_f1 : Nat), ∃ (Cy19_f1 : Chunk), L' = [(0, .slice Al0 l0.length cl0), (1, .int .i64 a1), (2, .int .i64 a2), (3, .int .i64 a3), (9, .pointer (some ⟨bR12, 0, none⟩)), (10, .pointer (some ⟨b14, 0, none⟩)), (11, .int .i64 y17)] ∧ G = G' ∧ Cy18_f0 :: [(b14, .cells #[.slice Ay18_f0 y18.f0.length cy18_f0] 30 (0, 0))] :: [(bR12, .cells #[mpv Ay19_f0, mpv Ay19_f1] 97 (0, 0))] :: Cy19_f0 :: Cy19_f1 :: Γ = Γ' ∧ Ow k36 G Ay18_f0 cy18_f0 y18.f0 Cy18_f0 ∧ MpO m94 G Ay19_f0 cy19_f0 y19.f0 Cy19_f0 ∧ MpO m95 G Ay19_f1 cy19_f1 y19.f1 Cy19_f1) ?_ k ⟨0, (⟨([] : List T36)⟩ : T30), t10, h, none, 0, [], AR12_0, cR12_0, CR12_0, AR12_1, cR12_1, CR12_1, rfl, rfl, rfl, (Ow.nil k36 _), HR12_0, HR12_1⟩
      clear h
      rintro kn21 _ _ _ ⟨y17, y18, y19, h, Ay18_f0, cy18_f0, Cy18_f0, Ay19_f0, cy19_f0, Cy19_f0, Ay19_f1, cy19_f1, Cy19_f1, rfl, rfl, rfl, Hy18_f0, Hy19_f0, Hy19_f1⟩
      cases kn21 with
      | zero => exact absurd h (by simp [grapevinelaw12_TreeScript_l0])
      | succ kn21 =>
        simp only [grapevinelaw12_TreeScript_l0] at h
        refine WP.seq ?_
        refine WP.seqP [0, 1, 2, 3, 9, 10, 11, 35] (L' := [(0, .slice Al0 l0.length cl0), (1, .int .i64 a1), (2, .int .i64 a2), (3, .int .i64 a3), (9, .pointer (some ⟨bR12, 0, none⟩)), (10, .pointer (some ⟨b14, 0, none⟩)), (11, .int .i64 y17), (35, .bool (decide (y17 < (l0.length : Int))))]) (by kernel_rfl) ?_
        refine WP.cond (b := decide (y17 < (l0.length : Int))) (by kernel_rfl) (fun hc => ?_) (fun hc => ?_)
        · replace hc := of_decide_eq_true hc
          rw [if_pos hc] at h
          have hc22 := hc
          clear hc
          refine WP.skip ?_
          refine QP.next ?_
          refine WP.pick [0, 1, 2, 3, 9, 10, 11] ?_
          refine WP.seq ?_
          refine WP.block ?_
          refine WP.seqR ?_
          refine WL.pure 0 2 [0, 1, 2, 3, 9, 10, 11, 38, 39] (L' := [(0, .slice Al0 l0.length cl0), (1, .int .i64 a1), (2, .int .i64 a2), (3, .int .i64 a3), (9, .pointer (some ⟨bR12, 0, none⟩)), (10, .pointer (some ⟨b14, 0, none⟩)), (11, .int .i64 y17), (38, .slice Al0 l0.length cl0), (39, .int .i64 y17)]) (by kernel_rfl) (by decide) ?_
          by_cases hb23 : 0 ≤ y17 ∧ y17 < (l0.length : Int)
          case neg => rw [if_neg hb23] at h; cases h
          rw [if_pos hb23] at h
          refine WL.tell (op := .indexAddr 22 (.tmp 38) (.tmp 39)) (ty := 0) (d := some 40) (g := none) (by kernel_rfl) (by kernel_rfl) (by kernel_rfl) (Tells.indexAddr (A := Al0) (n := l0.length) (c := cl0) (k := .i64) (j := y17) (by kernel_rfl) (by kernel_rfl) (Hl0.isSome hb23.1 hb23.2) hb23.1 hb23.2 sl22) ?_
          refine WL.tellE (op := .load 38 (.tmp 40)) (ty := 38) (d := some 41) (g := none) (by kernel_rfl) (by kernel_rfl) (by kernel_rfl) (Hl0.load (agg := true) hb23.1 hb23.2 z38 ag38 (fun h => by cases h) (by kernel_rfl)) ?_
          rintro _ rfl
          refine WL.op (op := .alloc 38) (ty := 0) (d := some 12) (g := none) (by kernel_rfl) (by kernel_rfl) (by kernel_rfl) (Does.new (o := .cells #[.bool false, .int .i64 0, .int .i64 0, .int .i64 0, .int .i64 0, .string (⟨#[]⟩ : ByteArray)] 38 (0, 0)) (v := fun r => .pointer (some ⟨r, 0, none⟩)) (fun r => by kernel_rfl)) ?_
          rintro _ _ _ ⟨b24, rfl, rfl, rfl⟩
          refine WL.op (op := .store 38 (.tmp 12) (.tmp 41)) (ty := 0) (d := none) (g := none) (by kernel_rfl) (by kernel_rfl) (by kernel_rfl) (Does.store_box (i := 0) (b := b24) (o := 0) (v := .agg #[.bool ((l0.getD y17.toNat z38).f0), .int .i64 ((l0.getD y17.toNat z38).f1), .int .i64 ((l0.getD y17.toNat z38).f2), .int .i64 ((l0.getD y17.toNat z38).f3), .int .i64 ((l0.getD y17.toNat z38).f4), .string ((l0.getD y17.toNat z38).f5)]) (by rfl) sz38 (by kernel_rfl) (by kernel_rfl) (by kernel_rfl) (Free.zero _) (Nat.le_of_ble_eq_true rfl) (cells' := #[.bool ((l0.getD y17.toNat z38).f0), .int .i64 ((l0.getD y17.toNat z38).f1), .int .i64 ((l0.getD y17.toNat z38).f2), .int .i64 ((l0.getD y17.toNat z38).f3), .int .i64 ((l0.getD y17.toNat z38).f4), .string ((l0.getD y17.toNat z38).f5)]) (by kernel_rfl)) ?_
          rintro _ _ _ ⟨rfl, rfl, rfl⟩
          refine WL.restQ 6 [0, 1, 2, 3, 9, 10, 11, 12] (L' := [(0, .slice Al0 l0.length cl0), (1, .int .i64 a1), (2, .int .i64 a2), (3, .int .i64 a3), (9, .pointer (some ⟨bR12, 0, none⟩)), (10, .pointer (some ⟨b14, 0, none⟩)), (11, .int .i64 y17), (12, .pointer (some ⟨b24, 0, none⟩))]) (by kernel_rfl) ?_
          refine WP.seq ?_
          refine WP.seqR ?_
          refine WL.pure 0 1 [0, 1, 2, 3, 9, 10, 11, 12, 42] (L' := [(0, .slice Al0 l0.length cl0), (1, .int .i64 a1), (2, .int .i64 a2), (3, .int .i64 a3), (9, .pointer (some ⟨bR12, 0, none⟩)), (10, .pointer (some ⟨b14, 0, none⟩)), (11, .int .i64 y17), (12, .pointer (some ⟨b24, 0, none⟩)), (42, .pointer (some ⟨b24, 0, none⟩))]) (by kernel_rfl) (by decide) ?_
          refine WL.tell (op := .load 4 (.tmp 42)) (ty := 4) (d := some 43) (g := none) (by kernel_rfl) (by kernel_rfl) (by kernel_rfl) (Tells.load_box (i := 0) (b := b24) (o := 0) (agg := false) (by rfl) ag4 (by kernel_rfl) (fun _ => rfl) (Nat.le_of_ble_eq_true rfl) (v := .bool ((l0.getD y17.toNat z38).f0)) (by kernel_rfl)) ?_
          refine WL.restQ 2 [0, 1, 2, 3, 9, 10, 11, 12, 43] (L' := [(0, .slice Al0 l0.length cl0), (1, .int .i64 a1), (2, .int .i64 a2), (3, .int .i64 a3), (9, .pointer (some ⟨bR12, 0, none⟩)), (10, .pointer (some ⟨b14, 0, none⟩)), (11, .int .i64 y17), (12, .pointer (some ⟨b24, 0, none⟩)), (43, .bool ((l0.getD y17.toNat z38).f0))]) (by kernel_rfl) ?_
          refine WP.cond (b := (l0.getD y17.toNat z38).f0) (by kernel_rfl) (fun hc => ?_) (fun hc => ?_)
          · replace hc := hc
            rw [if_pos hc] at h
            have hc25 := hc
            clear hc
            rw [Option.bind_eq_some_iff] at h
            obtain ⟨os26, h, hk27⟩ := h
            refine WP.cut (fun L' G' Γ' => ∃ s26 : Bool × T30 × T97, s26 = os26 ∧ ∃ (As26_2_1_f0 : Option Addr), ∃ (cs26_2_1_f0 : Nat), ∃ (Cs26_2_1_f0 : Chunk), ∃ (As26_2_2_f0 : Option Addr), ∃ (cs26_2_2_f0 : Nat), ∃ (Cs26_2_2_f0 : Chunk), ∃ (As26_2_2_f1 : Option Addr), ∃ (cs26_2_2_f1 : Nat), ∃ (Cs26_2_2_f1 : Chunk), L' = [(0, .slice Al0 l0.length cl0), (1, .int .i64 a1), (2, .int .i64 a2), (3, .int .i64 a3), (9, .pointer (some ⟨bR12, 0, none⟩)), (10, .pointer (some ⟨b14, 0, none⟩)), (11, .int .i64 y17), (62, .bool s26.1)] ∧ G = G' ∧ [(b14, .cells #[.slice As26_2_1_f0 s26.2.1.f0.length cs26_2_1_f0] 30 (0, 0))] :: Cs26_2_1_f0 :: [(bR12, .cells #[mpv As26_2_2_f0, mpv As26_2_2_f1] 97 (0, 0))] :: Cs26_2_2_f0 :: Cs26_2_2_f1 :: Γ = Γ' ∧ Ow k36 G As26_2_1_f0 cs26_2_1_f0 s26.2.1.f0 Cs26_2_1_f0 ∧ MpO m94 G As26_2_2_f0 cs26_2_2_f0 s26.2.2.f0 Cs26_2_2_f0 ∧ MpO m95 G As26_2_2_f1 cs26_2_2_f1 s26.2.2.f1 Cs26_2_2_f1) ?_ ?_
            · clear hk27
              skip
              refine WP.any (N := 19) (S := [⟨some 44, [9], []⟩, ⟨some 45, [12], []⟩, ⟨some 46, [45], [1]⟩, ⟨some 47, [46], [2]⟩, ⟨some 48, [12], []⟩, ⟨some 49, [48], [4]⟩, ⟨some 50, [49], [5]⟩, ⟨some 51, [47, 50], [3, 6]⟩, ⟨some 52, [44, 51], [0, 7]⟩, ⟨some 53, [10], []⟩, ⟨some 54, [12], []⟩, ⟨some 55, [54], [10]⟩, ⟨some 56, [55], [11]⟩, ⟨some 57, [12], []⟩, ⟨some 58, [57], [13]⟩, ⟨some 59, [58], [14]⟩, ⟨some 60, [56, 59], [12, 15]⟩, ⟨some 61, [53, 60], [8, 9, 16]⟩, ⟨some 62, [52, 61], [8, 17]⟩]) (kw := 19) (G0 := G) (Γ0 := [[(b24, .cells #[.bool ((l0.getD y17.toNat z38).f0), .int .i64 ((l0.getD y17.toNat z38).f1), .int .i64 ((l0.getD y17.toNat z38).f2), .int .i64 ((l0.getD y17.toNat z38).f3), .int .i64 ((l0.getD y17.toNat z38).f4), .string ((l0.getD y17.toNat z38).f5)] 38 (0, 0))]]) mo (by kernel_rfl) (fun hS => ?_)
              refine WA.pure [0, 1, 2, 4, 5, 9, 10, 11, 13, 14] [0, 1, 2, 3, 9, 10, 11, 44, 46, 49, 53, 55, 58] (m := 9) (b' := 28215) (L' := [(0, .slice Al0 l0.length cl0), (1, .int .i64 a1), (2, .int .i64 a2), (3, .int .i64 a3), (9, .pointer (some ⟨bR12, 0, none⟩)), (10, .pointer (some ⟨b14, 0, none⟩)), (11, .int .i64 y17), (44, .pointer (some ⟨bR12, 0, none⟩)), (46, .pointer (some ⟨b24, 1, none⟩)), (49, .pointer (some ⟨b24, 1, none⟩)), (53, .pointer (some ⟨b14, 0, none⟩)), (55, .pointer (some ⟨b24, 1, none⟩)), (58, .pointer (some ⟨b24, 1, none⟩))]) (by kernel_rfl) (NoPanic.then (NoPanic.then (NoPanic.block (NoPanic.then (NoPanic.then (NoPanic.block (NoPanic.then (NoPanic.then (NoPanic.body))))))))) (Under.mem (C := [(b24, .cells #[.bool ((l0.getD y17.toNat z38).f0), .int .i64 ((l0.getD y17.toNat z38).f1), .int .i64 ((l0.getD y17.toNat z38).f2), .int .i64 ((l0.getD y17.toNat z38).f3), .int .i64 ((l0.getD y17.toNat z38).f4), .string ((l0.getD y17.toNat z38).f5)] 38 (0, 0))]) (by repeat first | exact List.Mem.head _ | apply List.Mem.tail)) hS (by kernel_rfl) ?_
              refine WA.tellD [] (i := 3) (m := 8) (b' := 28223) (by kernel_rfl) (NoPanic.then (NoPanic.then (NoPanic.block (NoPanic.then (NoPanic.then (NoPanic.block (NoPanic.then (NoPanic.then (NoPanic.body))))))))) (Under.mem (C := [(b24, .cells #[.bool ((l0.getD y17.toNat z38).f0), .int .i64 ((l0.getD y17.toNat z38).f1), .int .i64 ((l0.getD y17.toNat z38).f2), .int .i64 ((l0.getD y17.toNat z38).f3), .int .i64 ((l0.getD y17.toNat z38).f4), .string ((l0.getD y17.toNat z38).f5)] 38 (0, 0))]) (by repeat first | exact List.Mem.head _ | apply List.Mem.tail)) hS (by kernel_rfl) (op := .load 32 (.tmp 46)) (ty := 32) (d := some 47) (g := none) (by kernel_rfl) (by kernel_rfl) (by kernel_rfl) (Tells.load_box (i := 0) (b := b24) (o := 1) (agg := true) (by rfl) ag32 (by kernel_rfl) (fun h => by cases h) (Nat.le_of_ble_eq_true rfl) (v := .agg #[.int .i64 ((l0.getD y17.toNat z38).f1), .int .i64 ((l0.getD y17.toNat z38).f2)]) (by kernel_rfl)) ?_
              refine WA.tellD [] (i := 6) (m := 7) (b' := 28287) (by kernel_rfl) (NoPanic.then (NoPanic.then (NoPanic.block (NoPanic.then (NoPanic.then (NoPanic.block (NoPanic.then (NoPanic.then (NoPanic.body))))))))) (Under.mem (C := [(b24, .cells #[.bool ((l0.getD y17.toNat z38).f0), .int .i64 ((l0.getD y17.toNat z38).f1), .int .i64 ((l0.getD y17.toNat z38).f2), .int .i64 ((l0.getD y17.toNat z38).f3), .int .i64 ((l0.getD y17.toNat z38).f4), .string ((l0.getD y17.toNat z38).f5)] 38 (0, 0))]) (by repeat first | exact List.Mem.head _ | apply List.Mem.tail)) hS (by kernel_rfl) (op := .load 32 (.tmp 49)) (ty := 32) (d := some 50) (g := none) (by kernel_rfl) (by kernel_rfl) (by kernel_rfl) (Tells.load_box (i := 0) (b := b24) (o := 1) (agg := true) (by rfl) ag32 (by kernel_rfl) (fun h => by cases h) (Nat.le_of_ble_eq_true rfl) (v := .agg #[.int .i64 ((l0.getD y17.toNat z38).f1), .int .i64 ((l0.getD y17.toNat z38).f2)]) (by kernel_rfl)) ?_
              refine WA.tellD [] (i := 12) (m := 6) (b' := 32383) (by kernel_rfl) (NoPanic.then (NoPanic.then (NoPanic.block (NoPanic.then (NoPanic.then (NoPanic.block (NoPanic.then (NoPanic.then (NoPanic.body))))))))) (Under.mem (C := [(b24, .cells #[.bool ((l0.getD y17.toNat z38).f0), .int .i64 ((l0.getD y17.toNat z38).f1), .int .i64 ((l0.getD y17.toNat z38).f2), .int .i64 ((l0.getD y17.toNat z38).f3), .int .i64 ((l0.getD y17.toNat z38).f4), .string ((l0.getD y17.toNat z38).f5)] 38 (0, 0))]) (by repeat first | exact List.Mem.head _ | apply List.Mem.tail)) hS (by kernel_rfl) (op := .load 32 (.tmp 55)) (ty := 32) (d := some 56) (g := none) (by kernel_rfl) (by kernel_rfl) (by kernel_rfl) (Tells.load_box (i := 0) (b := b24) (o := 1) (agg := true) (by rfl) ag32 (by kernel_rfl) (fun h => by cases h) (Nat.le_of_ble_eq_true rfl) (v := .agg #[.int .i64 ((l0.getD y17.toNat z38).f1), .int .i64 ((l0.getD y17.toNat z38).f2)]) (by kernel_rfl)) ?_
              refine WA.tellD [] (i := 15) (m := 5) (b' := 65151) (by kernel_rfl) (NoPanic.then (NoPanic.then (NoPanic.block (NoPanic.then (NoPanic.then (NoPanic.block (NoPanic.then (NoPanic.then (NoPanic.body))))))))) (Under.mem (C := [(b24, .cells #[.bool ((l0.getD y17.toNat z38).f0), .int .i64 ((l0.getD y17.toNat z38).f1), .int .i64 ((l0.getD y17.toNat z38).f2), .int .i64 ((l0.getD y17.toNat z38).f3), .int .i64 ((l0.getD y17.toNat z38).f4), .string ((l0.getD y17.toNat z38).f5)] 38 (0, 0))]) (by repeat first | exact List.Mem.head _ | apply List.Mem.tail)) hS (by kernel_rfl) (op := .load 32 (.tmp 58)) (ty := 32) (d := some 59) (g := none) (by kernel_rfl) (by kernel_rfl) (by kernel_rfl) (Tells.load_box (i := 0) (b := b24) (o := 1) (agg := true) (by rfl) ag32 (by kernel_rfl) (fun h => by cases h) (Nat.le_of_ble_eq_true rfl) (v := .agg #[.int .i64 ((l0.getD y17.toNat z38).f1), .int .i64 ((l0.getD y17.toNat z38).f2)]) (by kernel_rfl)) ?_
              refine WA.two (i := 7) (j := 16) (m := 4) (by kernel_rfl) hS (by kernel_rfl) ?_ ?_
              · refine WO.op (b' := 65279) (by kernel_rfl) (op := .buildSlice 41 2 #[(0, (.tmp 47)), (1, (.tmp 50))]) (ty := 41) (d := some 51) (g := none) (by kernel_rfl) (by kernel_rfl) (by kernel_rfl) (Does.new (o := .cells #[.int .i64 ((l0.getD y17.toNat z38).f1), .int .i64 ((l0.getD y17.toNat z38).f2), .int .i64 ((l0.getD y17.toNat z38).f1), .int .i64 ((l0.getD y17.toNat z38).f2)] 32 (0, 0)) (v := fun r => .slice (some ⟨r, 0, none⟩) 2 2) (fun r => by kernel_rfl)) ?_
                rintro _ _ _ ⟨b28, rfl, rfl, rfl⟩
                refine ⟨_, _, Under.refl, (Under.mem (C := [(b24, .cells #[.bool ((l0.getD y17.toNat z38).f0), .int .i64 ((l0.getD y17.toNat z38).f1), .int .i64 ((l0.getD y17.toNat z38).f2), .int .i64 ((l0.getD y17.toNat z38).f3), .int .i64 ((l0.getD y17.toNat z38).f4), .string ((l0.getD y17.toNat z38).f5)] 38 (0, 0))]) (by repeat first | exact List.Mem.head _ | apply List.Mem.tail)), ?_⟩
                have Ho30 : Ow k32 G (some ⟨b28, 0, none⟩) 2 ([(⟨(l0.getD y17.toNat z38).f1, (l0.getD y17.toNat z38).f2⟩ : T32), (⟨(l0.getD y17.toNat z38).f1, (l0.getD y17.toNat z38).f2⟩ : T32)] : List T32) [(b28, .cells #[.int .i64 ((l0.getD y17.toNat z38).f1), .int .i64 ((l0.getD y17.toNat z38).f2), .int .i64 ((l0.getD y17.toNat z38).f1), .int .i64 ((l0.getD y17.toNat z38).f2)] 32 (0, 0))] := Ow.lit (kd := k32) (G := G) (b := b28) (T := 32) (xs := ([(⟨(l0.getD y17.toNat z38).f1, (l0.getD y17.toNat z38).f2⟩ : T32), (⟨(l0.getD y17.toNat z38).f1, (l0.getD y17.toNat z38).f2⟩ : T32)] : List T32)) (cs := [.int .i64 ((l0.getD y17.toNat z38).f1), .int .i64 ((l0.getD y17.toNat z38).f2), .int .i64 ((l0.getD y17.toNat z38).f1), .int .i64 ((l0.getD y17.toNat z38).f2)]) (.cons (x := (⟨(l0.getD y17.toNat z38).f1, (l0.getD y17.toNat z38).f2⟩ : T32)) (cs := [.int .i64 ((l0.getD y17.toNat z38).f1), .int .i64 ((l0.getD y17.toNat z38).f2)]) (by exact rfl) (.cons (x := (⟨(l0.getD y17.toNat z38).f1, (l0.getD y17.toNat z38).f2⟩ : T32)) (cs := [.int .i64 ((l0.getD y17.toNat z38).f1), .int .i64 ((l0.getD y17.toNat z38).f2)]) (by exact rfl) .nil))
                refine WA.two (i := 8) (j := 16) (m := 3) (by kernel_rfl) hS (by kernel_rfl) ?_ ?_
                · refine WO.front (i := 6) rfl ?_
                  refine WO.front (i := 6) rfl ?_
                  refine WO.front (i := 6) rfl ?_
                  rw [Option.bind_eq_some_iff] at h
                  obtain ⟨t31, ht32, h⟩ := h
                  refine WO.op (b' := 65535) (by kernel_rfl) (op := .call { callee := (.value (.func 15)), args := #[(.tmp 44), (.tmp 51)], argTypes := #[25, 41] }) (ty := 3) (d := some 52) (g := none) (by kernel_rfl) (by kernel_rfl) (by kernel_rfl) (Does.call (Φ := fun v' G' Γ' => ∃ (AR33p0_0 : Option Addr), ∃ (cR33p0_0 : Nat), ∃ (CR33p0_0 : Chunk), ∃ (AR33p0_1 : Option Addr), ∃ (cR33p0_1 : Nat), ∃ (CR33p0_1 : Chunk), v' = .int .i64 t31.1 ∧ MpO m94 G AR33p0_0 cR33p0_0 t31.2.f0 CR33p0_0 ∧ MpO m95 G AR33p0_1 cR33p0_1 t31.2.f1 CR33p0_1 ∧ G = G' ∧ [(bR12, .cells #[mpv AR33p0_0, mpv AR33p0_1] 97 (0, 0))] :: CR33p0_0 :: CR33p0_1 :: [(b28, .cells #[.int .i64 ((l0.getD y17.toNat z38).f1), .int .i64 ((l0.getD y17.toNat z38).f2), .int .i64 ((l0.getD y17.toNat z38).f1), .int .i64 ((l0.getD y17.toNat z38).f2)] 32 (0, 0))] :: [(b24, .cells #[.bool ((l0.getD y17.toNat z38).f0), .int .i64 ((l0.getD y17.toNat z38).f1), .int .i64 ((l0.getD y17.toNat z38).f2), .int .i64 ((l0.getD y17.toNat z38).f3), .int .i64 ((l0.getD y17.toNat z38).f4), .string ((l0.getD y17.toNat z38).f5)] 38 (0, 0))] :: Cy18_f0 :: [(b14, .cells #[.slice Ay18_f0 y18.f0.length cy18_f0] 30 (0, 0))] :: Γ = Γ') (f := 15) (args := [.pointer (some ⟨bR12, 0, none⟩), .slice (some ⟨b28, 0, none⟩) ([(⟨(l0.getD y17.toNat z38).f1, (l0.getD y17.toNat z38).f2⟩ : T32), (⟨(l0.getD y17.toNat z38).f1, (l0.getD y17.toNat z38).f2⟩ : T32)] : List T32).length 2]) (by kernel_rfl) (fun W hI => (Calls.lendN (Φ := fun v' N => ∃ (AR33p0_0 : Option Addr), ∃ (cR33p0_0 : Nat), ∃ (CR33p0_0 : Chunk), ∃ (AR33p0_1 : Option Addr), ∃ (cR33p0_1 : Nat), ∃ (CR33p0_1 : Chunk), v' = .int .i64 t31.1 ∧ MpO m94 G AR33p0_0 cR33p0_0 t31.2.f0 CR33p0_0 ∧ MpO m95 G AR33p0_1 cR33p0_1 t31.2.f1 CR33p0_1 ∧ N = [[(bR12, .cells #[mpv AR33p0_0, mpv AR33p0_1] 97 (0, 0))], CR33p0_0, CR33p0_1]) (H := [[(bR12, .cells #[mpv Ay19_f0, mpv Ay19_f1] 97 (0, 0))], Cy19_f0, Cy19_f1]) (i := 0) rfl hI (fun _ e l35 nl35 hI => by subst e; exact (((tree_Tree_Drop_calls kn21 y19 ([(⟨(l0.getD y17.toNat z38).f1, (l0.getD y17.toNat z38).f2⟩ : T32), (⟨(l0.getD y17.toNat z38).f1, (l0.getD y17.toNat z38).f2⟩ : T32)] : List T32) bR12 Ay19_f0 cy19_f0 Cy19_f0 (Hy19_f0.mono l35) Ay19_f1 cy19_f1 Cy19_f1 (Hy19_f1.mono l35) (some ⟨b28, 0, none⟩) 2 (Ho30.rdN l35 nl35) t31 ht32 hI)).mono fun _ _ hr => by obtain ⟨_, _, _, rfl, hd, hI⟩ := hr; obtain ⟨AR33p0_0, cR33p0_0, CR33p0_0, AR33p0_1, cR33p0_1, CR33p0_1, rfl, HR33p0_0, HR33p0_1, rfl, rfl⟩ := hd; exact ⟨_, _, _, rfl, ⟨[[(bR12, .cells #[mpv AR33p0_0, mpv AR33p0_1] 97 (0, 0))], CR33p0_0, CR33p0_1], ⟨AR33p0_0, cR33p0_0, CR33p0_0, AR33p0_1, cR33p0_1, CR33p0_1, rfl, (HR33p0_0.flat ()), (HR33p0_1.flat ()), rfl⟩, rfl, rfl⟩, hI⟩))).mono fun _ _ hr => by obtain ⟨_, _, _, rfl, ⟨_, hd, rfl, rfl⟩, hI⟩ := hr; obtain ⟨AR33p0_0, cR33p0_0, CR33p0_0, AR33p0_1, cR33p0_1, CR33p0_1, rfl, HR33p0_0, HR33p0_1, rfl⟩ := hd; exact ⟨_, _, _, rfl, ⟨AR33p0_0, cR33p0_0, CR33p0_0, AR33p0_1, cR33p0_1, CR33p0_1, rfl, HR33p0_0, HR33p0_1, rfl, rfl⟩, hI⟩)) ?_
                  rintro _ _ _ ⟨AR33p0_0, cR33p0_0, CR33p0_0, AR33p0_1, cR33p0_1, CR33p0_1, rfl, HR33p0_0, HR33p0_1, rfl, rfl⟩
                  refine ⟨_, _, Under.refl, (Under.mem (C := [(b24, .cells #[.bool ((l0.getD y17.toNat z38).f0), .int .i64 ((l0.getD y17.toNat z38).f1), .int .i64 ((l0.getD y17.toNat z38).f2), .int .i64 ((l0.getD y17.toNat z38).f3), .int .i64 ((l0.getD y17.toNat z38).f4), .string ((l0.getD y17.toNat z38).f5)] 38 (0, 0))]) (by repeat first | exact List.Mem.head _ | apply List.Mem.tail)), ?_⟩
                  refine WA.op (i := 16) (m := 2) (b' := 131071) (by kernel_rfl) hS (by kernel_rfl) (op := .buildSlice 41 2 #[(0, (.tmp 56)), (1, (.tmp 59))]) (ty := 41) (d := some 60) (g := none) (by kernel_rfl) (by kernel_rfl) (by kernel_rfl) (Does.new (o := .cells #[.int .i64 ((l0.getD y17.toNat z38).f1), .int .i64 ((l0.getD y17.toNat z38).f2), .int .i64 ((l0.getD y17.toNat z38).f1), .int .i64 ((l0.getD y17.toNat z38).f2)] 32 (0, 0)) (v := fun r => .slice (some ⟨r, 0, none⟩) 2 2) (fun r => by kernel_rfl)) ?_
                  rintro _ _ _ ⟨b36, rfl, rfl, rfl⟩
                  refine ⟨_, _, Under.refl, (Under.mem (C := [(b24, .cells #[.bool ((l0.getD y17.toNat z38).f0), .int .i64 ((l0.getD y17.toNat z38).f1), .int .i64 ((l0.getD y17.toNat z38).f2), .int .i64 ((l0.getD y17.toNat z38).f3), .int .i64 ((l0.getD y17.toNat z38).f4), .string ((l0.getD y17.toNat z38).f5)] 38 (0, 0))]) (by repeat first | exact List.Mem.head _ | apply List.Mem.tail)), ?_⟩
                  have Ho38 : Ow k32 G (some ⟨b36, 0, none⟩) 2 ([(⟨(l0.getD y17.toNat z38).f1, (l0.getD y17.toNat z38).f2⟩ : T32), (⟨(l0.getD y17.toNat z38).f1, (l0.getD y17.toNat z38).f2⟩ : T32)] : List T32) [(b36, .cells #[.int .i64 ((l0.getD y17.toNat z38).f1), .int .i64 ((l0.getD y17.toNat z38).f2), .int .i64 ((l0.getD y17.toNat z38).f1), .int .i64 ((l0.getD y17.toNat z38).f2)] 32 (0, 0))] := Ow.lit (kd := k32) (G := G) (b := b36) (T := 32) (xs := ([(⟨(l0.getD y17.toNat z38).f1, (l0.getD y17.toNat z38).f2⟩ : T32), (⟨(l0.getD y17.toNat z38).f1, (l0.getD y17.toNat z38).f2⟩ : T32)] : List T32)) (cs := [.int .i64 ((l0.getD y17.toNat z38).f1), .int .i64 ((l0.getD y17.toNat z38).f2), .int .i64 ((l0.getD y17.toNat z38).f1), .int .i64 ((l0.getD y17.toNat z38).f2)]) (.cons (x := (⟨(l0.getD y17.toNat z38).f1, (l0.getD y17.toNat z38).f2⟩ : T32)) (cs := [.int .i64 ((l0.getD y17.toNat z38).f1), .int .i64 ((l0.getD y17.toNat z38).f2)]) (by exact rfl) (.cons (x := (⟨(l0.getD y17.toNat z38).f1, (l0.getD y17.toNat z38).f2⟩ : T32)) (cs := [.int .i64 ((l0.getD y17.toNat z38).f1), .int .i64 ((l0.getD y17.toNat z38).f2)]) (by exact rfl) .nil))
                  refine WA.front (i := 6) rfl ?_
                  refine WA.front (i := 7) rfl ?_
                  rw [Option.bind_eq_some_iff] at h
                  obtain ⟨t39, ht40, h⟩ := h
                  refine WA.op (i := 17) (m := 1) (b' := 262143) (by kernel_rfl) hS (by kernel_rfl) (op := .call { callee := (.value (.func 16)), args := #[(.tmp 53), (.tmp 60)], argTypes := #[27, 41] }) (ty := 3) (d := some 61) (g := none) (by kernel_rfl) (by kernel_rfl) (by kernel_rfl) (Does.call (Φ := fun v' G' Γ' => ∃ (AR41p0 : Option Addr), ∃ (cR41p0 : Nat), ∃ (CR41p0 : Chunk), v' = .int .i64 t39.1 ∧ Ow k36 G AR41p0 cR41p0 t39.2.f0 CR41p0 ∧ G = G' ∧ [(b14, .cells #[.slice AR41p0 t39.2.f0.length cR41p0] 30 (0, 0))] :: CR41p0 :: [(b36, .cells #[.int .i64 ((l0.getD y17.toNat z38).f1), .int .i64 ((l0.getD y17.toNat z38).f2), .int .i64 ((l0.getD y17.toNat z38).f1), .int .i64 ((l0.getD y17.toNat z38).f2)] 32 (0, 0))] :: [(bR12, .cells #[mpv AR33p0_0, mpv AR33p0_1] 97 (0, 0))] :: CR33p0_0 :: CR33p0_1 :: [(b28, .cells #[.int .i64 ((l0.getD y17.toNat z38).f1), .int .i64 ((l0.getD y17.toNat z38).f2), .int .i64 ((l0.getD y17.toNat z38).f1), .int .i64 ((l0.getD y17.toNat z38).f2)] 32 (0, 0))] :: [(b24, .cells #[.bool ((l0.getD y17.toNat z38).f0), .int .i64 ((l0.getD y17.toNat z38).f1), .int .i64 ((l0.getD y17.toNat z38).f2), .int .i64 ((l0.getD y17.toNat z38).f3), .int .i64 ((l0.getD y17.toNat z38).f4), .string ((l0.getD y17.toNat z38).f5)] 38 (0, 0))] :: Γ = Γ') (f := 16) (args := [.pointer (some ⟨b14, 0, none⟩), .slice (some ⟨b36, 0, none⟩) ([(⟨(l0.getD y17.toNat z38).f1, (l0.getD y17.toNat z38).f2⟩ : T32), (⟨(l0.getD y17.toNat z38).f1, (l0.getD y17.toNat z38).f2⟩ : T32)] : List T32).length 2]) (by kernel_rfl) (fun W hI => (Calls.lendN (Φ := fun v' N => ∃ (AR41p0 : Option Addr), ∃ (cR41p0 : Nat), ∃ (CR41p0 : Chunk), v' = .int .i64 t39.1 ∧ Ow k36 G AR41p0 cR41p0 t39.2.f0 CR41p0 ∧ N = [[(b14, .cells #[.slice AR41p0 t39.2.f0.length cR41p0] 30 (0, 0))], CR41p0]) (H := [[(b14, .cells #[.slice Ay18_f0 y18.f0.length cy18_f0] 30 (0, 0))], Cy18_f0]) (i := 0) rfl hI (fun _ e l43 nl43 hI => by subst e; exact (((grapevineref12_Tree_Drop_calls kn21 y18 ([(⟨(l0.getD y17.toNat z38).f1, (l0.getD y17.toNat z38).f2⟩ : T32), (⟨(l0.getD y17.toNat z38).f1, (l0.getD y17.toNat z38).f2⟩ : T32)] : List T32) b14 Ay18_f0 cy18_f0 Cy18_f0 (Hy18_f0.mono l43) (some ⟨b36, 0, none⟩) 2 (Ho38.rdN l43 nl43) t39 ht40 hI)).mono fun _ _ hr => by obtain ⟨_, _, _, rfl, hd, hI⟩ := hr; obtain ⟨AR41p0, cR41p0, CR41p0, rfl, HR41p0, rfl, rfl⟩ := hd; exact ⟨_, _, _, rfl, ⟨[[(b14, .cells #[.slice AR41p0 t39.2.f0.length cR41p0] 30 (0, 0))], CR41p0], ⟨AR41p0, cR41p0, CR41p0, rfl, (HR41p0.flat (kFlat_flat _ _ _ _)), rfl⟩, rfl, rfl⟩, hI⟩))).mono fun _ _ hr => by obtain ⟨_, _, _, rfl, ⟨_, hd, rfl, rfl⟩, hI⟩ := hr; obtain ⟨AR41p0, cR41p0, CR41p0, rfl, HR41p0, rfl⟩ := hd; exact ⟨_, _, _, rfl, ⟨AR41p0, cR41p0, CR41p0, rfl, HR41p0, rfl, rfl⟩, hI⟩)) ?_
                  rintro _ _ _ ⟨AR41p0, cR41p0, CR41p0, rfl, HR41p0, rfl, rfl⟩
                  refine ⟨_, _, Under.refl, (Under.mem (C := [(b24, .cells #[.bool ((l0.getD y17.toNat z38).f0), .int .i64 ((l0.getD y17.toNat z38).f1), .int .i64 ((l0.getD y17.toNat z38).f2), .int .i64 ((l0.getD y17.toNat z38).f3), .int .i64 ((l0.getD y17.toNat z38).f4), .string ((l0.getD y17.toNat z38).f5)] 38 (0, 0))]) (by repeat first | exact List.Mem.head _ | apply List.Mem.tail)), ?_⟩
                  refine WA.pure [18] [0, 1, 2, 3, 9, 10, 11, 62] (m := 0) (b' := 524287) (L' := [(0, .slice Al0 l0.length cl0), (1, .int .i64 a1), (2, .int .i64 a2), (3, .int .i64 a3), (9, .pointer (some ⟨bR12, 0, none⟩)), (10, .pointer (some ⟨b14, 0, none⟩)), (11, .int .i64 y17), (62, .bool (t31.1 != t39.1))]) (by kernel_rfl) (NoPanic.then (NoPanic.then (NoPanic.block (NoPanic.then (NoPanic.then (NoPanic.block (NoPanic.then (NoPanic.then (NoPanic.body))))))))) (Under.mem (C := [(b24, .cells #[.bool ((l0.getD y17.toNat z38).f0), .int .i64 ((l0.getD y17.toNat z38).f1), .int .i64 ((l0.getD y17.toNat z38).f2), .int .i64 ((l0.getD y17.toNat z38).f3), .int .i64 ((l0.getD y17.toNat z38).f4), .string ((l0.getD y17.toNat z38).f5)] 38 (0, 0))]) (by repeat first | exact List.Mem.head _ | apply List.Mem.tail)) hS (by kernel_rfl) ?_
                  refine WA.done hS (by kernel_rfl) ?_
                  refine QP.pick [0, 1, 2, 3, 9, 10, 11, 62] ?_
                  refine QP.dropAt 7 ?_
                  refine QP.dropAt 6 ?_
                  refine QP.dropAt 2 ?_
                  refine QP.pick [0, 1, 2, 3, 9, 10, 11, 62] ?_
                  exact QP.meet ⟨_, Option.some.inj h, AR41p0, cR41p0, CR41p0, AR33p0_0, cR33p0_0, CR33p0_0, AR33p0_1, cR33p0_1, CR33p0_1, rfl, rfl, rfl, HR41p0, HR33p0_0, HR33p0_1⟩
                · refine WO.op (b' := 130815) (by kernel_rfl) (op := .buildSlice 41 2 #[(0, (.tmp 56)), (1, (.tmp 59))]) (ty := 41) (d := some 60) (g := none) (by kernel_rfl) (by kernel_rfl) (by kernel_rfl) (Does.new (o := .cells #[.int .i64 ((l0.getD y17.toNat z38).f1), .int .i64 ((l0.getD y17.toNat z38).f2), .int .i64 ((l0.getD y17.toNat z38).f1), .int .i64 ((l0.getD y17.toNat z38).f2)] 32 (0, 0)) (v := fun r => .slice (some ⟨r, 0, none⟩) 2 2) (fun r => by kernel_rfl)) ?_
                  rintro _ _ _ ⟨b31, rfl, rfl, rfl⟩
                  refine ⟨_, _, Under.refl, (Under.mem (C := [(b24, .cells #[.bool ((l0.getD y17.toNat z38).f0), .int .i64 ((l0.getD y17.toNat z38).f1), .int .i64 ((l0.getD y17.toNat z38).f2), .int .i64 ((l0.getD y17.toNat z38).f3), .int .i64 ((l0.getD y17.toNat z38).f4), .string ((l0.getD y17.toNat z38).f5)] 38 (0, 0))]) (by repeat first | exact List.Mem.head _ | apply List.Mem.tail)), ?_⟩
                  have Ho33 : Ow k32 G (some ⟨b31, 0, none⟩) 2 ([(⟨(l0.getD y17.toNat z38).f1, (l0.getD y17.toNat z38).f2⟩ : T32), (⟨(l0.getD y17.toNat z38).f1, (l0.getD y17.toNat z38).f2⟩ : T32)] : List T32) [(b31, .cells #[.int .i64 ((l0.getD y17.toNat z38).f1), .int .i64 ((l0.getD y17.toNat z38).f2), .int .i64 ((l0.getD y17.toNat z38).f1), .int .i64 ((l0.getD y17.toNat z38).f2)] 32 (0, 0))] := Ow.lit (kd := k32) (G := G) (b := b31) (T := 32) (xs := ([(⟨(l0.getD y17.toNat z38).f1, (l0.getD y17.toNat z38).f2⟩ : T32), (⟨(l0.getD y17.toNat z38).f1, (l0.getD y17.toNat z38).f2⟩ : T32)] : List T32)) (cs := [.int .i64 ((l0.getD y17.toNat z38).f1), .int .i64 ((l0.getD y17.toNat z38).f2), .int .i64 ((l0.getD y17.toNat z38).f1), .int .i64 ((l0.getD y17.toNat z38).f2)]) (.cons (x := (⟨(l0.getD y17.toNat z38).f1, (l0.getD y17.toNat z38).f2⟩ : T32)) (cs := [.int .i64 ((l0.getD y17.toNat z38).f1), .int .i64 ((l0.getD y17.toNat z38).f2)]) (by exact rfl) (.cons (x := (⟨(l0.getD y17.toNat z38).f1, (l0.getD y17.toNat z38).f2⟩ : T32)) (cs := [.int .i64 ((l0.getD y17.toNat z38).f1), .int .i64 ((l0.getD y17.toNat z38).f2)]) (by exact rfl) .nil))
                  refine WA.front (i := 7) rfl ?_
                  refine WA.front (i := 7) rfl ?_
                  refine WA.front (i := 7) rfl ?_
                  rw [Option.bind_eq_some_iff] at h
                  obtain ⟨t34, ht35, h⟩ := h
                  refine WA.op (i := 8) (m := 2) (b' := 131071) (by kernel_rfl) hS (by kernel_rfl) (op := .call { callee := (.value (.func 15)), args := #[(.tmp 44), (.tmp 51)], argTypes := #[25, 41] }) (ty := 3) (d := some 52) (g := none) (by kernel_rfl) (by kernel_rfl) (by kernel_rfl) (Does.call (Φ := fun v' G' Γ' => ∃ (AR36p0_0 : Option Addr), ∃ (cR36p0_0 : Nat), ∃ (CR36p0_0 : Chunk), ∃ (AR36p0_1 : Option Addr), ∃ (cR36p0_1 : Nat), ∃ (CR36p0_1 : Chunk), v' = .int .i64 t34.1 ∧ MpO m94 G AR36p0_0 cR36p0_0 t34.2.f0 CR36p0_0 ∧ MpO m95 G AR36p0_1 cR36p0_1 t34.2.f1 CR36p0_1 ∧ G = G' ∧ [(bR12, .cells #[mpv AR36p0_0, mpv AR36p0_1] 97 (0, 0))] :: CR36p0_0 :: CR36p0_1 :: [(b31, .cells #[.int .i64 ((l0.getD y17.toNat z38).f1), .int .i64 ((l0.getD y17.toNat z38).f2), .int .i64 ((l0.getD y17.toNat z38).f1), .int .i64 ((l0.getD y17.toNat z38).f2)] 32 (0, 0))] :: [(b28, .cells #[.int .i64 ((l0.getD y17.toNat z38).f1), .int .i64 ((l0.getD y17.toNat z38).f2), .int .i64 ((l0.getD y17.toNat z38).f1), .int .i64 ((l0.getD y17.toNat z38).f2)] 32 (0, 0))] :: [(b24, .cells #[.bool ((l0.getD y17.toNat z38).f0), .int .i64 ((l0.getD y17.toNat z38).f1), .int .i64 ((l0.getD y17.toNat z38).f2), .int .i64 ((l0.getD y17.toNat z38).f3), .int .i64 ((l0.getD y17.toNat z38).f4), .string ((l0.getD y17.toNat z38).f5)] 38 (0, 0))] :: Cy18_f0 :: [(b14, .cells #[.slice Ay18_f0 y18.f0.length cy18_f0] 30 (0, 0))] :: Γ = Γ') (f := 15) (args := [.pointer (some ⟨bR12, 0, none⟩), .slice (some ⟨b28, 0, none⟩) ([(⟨(l0.getD y17.toNat z38).f1, (l0.getD y17.toNat z38).f2⟩ : T32), (⟨(l0.getD y17.toNat z38).f1, (l0.getD y17.toNat z38).f2⟩ : T32)] : List T32).length 2]) (by kernel_rfl) (fun W hI => (Calls.lendN (Φ := fun v' N => ∃ (AR36p0_0 : Option Addr), ∃ (cR36p0_0 : Nat), ∃ (CR36p0_0 : Chunk), ∃ (AR36p0_1 : Option Addr), ∃ (cR36p0_1 : Nat), ∃ (CR36p0_1 : Chunk), v' = .int .i64 t34.1 ∧ MpO m94 G AR36p0_0 cR36p0_0 t34.2.f0 CR36p0_0 ∧ MpO m95 G AR36p0_1 cR36p0_1 t34.2.f1 CR36p0_1 ∧ N = [[(bR12, .cells #[mpv AR36p0_0, mpv AR36p0_1] 97 (0, 0))], CR36p0_0, CR36p0_1]) (H := [[(bR12, .cells #[mpv Ay19_f0, mpv Ay19_f1] 97 (0, 0))], Cy19_f0, Cy19_f1]) (i := 1) rfl hI (fun _ e l38 nl38 hI => by subst e; exact (((tree_Tree_Drop_calls kn21 y19 ([(⟨(l0.getD y17.toNat z38).f1, (l0.getD y17.toNat z38).f2⟩ : T32), (⟨(l0.getD y17.toNat z38).f1, (l0.getD y17.toNat z38).f2⟩ : T32)] : List T32) bR12 Ay19_f0 cy19_f0 Cy19_f0 (Hy19_f0.mono l38) Ay19_f1 cy19_f1 Cy19_f1 (Hy19_f1.mono l38) (some ⟨b28, 0, none⟩) 2 (Ho30.rdN l38 nl38) t34 ht35 hI)).mono fun _ _ hr => by obtain ⟨_, _, _, rfl, hd, hI⟩ := hr; obtain ⟨AR36p0_0, cR36p0_0, CR36p0_0, AR36p0_1, cR36p0_1, CR36p0_1, rfl, HR36p0_0, HR36p0_1, rfl, rfl⟩ := hd; exact ⟨_, _, _, rfl, ⟨[[(bR12, .cells #[mpv AR36p0_0, mpv AR36p0_1] 97 (0, 0))], CR36p0_0, CR36p0_1], ⟨AR36p0_0, cR36p0_0, CR36p0_0, AR36p0_1, cR36p0_1, CR36p0_1, rfl, (HR36p0_0.flat ()), (HR36p0_1.flat ()), rfl⟩, rfl, rfl⟩, hI⟩))).mono fun _ _ hr => by obtain ⟨_, _, _, rfl, ⟨_, hd, rfl, rfl⟩, hI⟩ := hr; obtain ⟨AR36p0_0, cR36p0_0, CR36p0_0, AR36p0_1, cR36p0_1, CR36p0_1, rfl, HR36p0_0, HR36p0_1, rfl⟩ := hd; exact ⟨_, _, _, rfl, ⟨AR36p0_0, cR36p0_0, CR36p0_0, AR36p0_1, cR36p0_1, CR36p0_1, rfl, HR36p0_0, HR36p0_1, rfl, rfl⟩, hI⟩)) ?_
                  rintro _ _ _ ⟨AR36p0_0, cR36p0_0, CR36p0_0, AR36p0_1, cR36p0_1, CR36p0_1, rfl, HR36p0_0, HR36p0_1, rfl, rfl⟩
                  refine ⟨_, _, Under.refl, (Under.mem (C := [(b24, .cells #[.bool ((l0.getD y17.toNat z38).f0), .int .i64 ((l0.getD y17.toNat z38).f1), .int .i64 ((l0.getD y17.toNat z38).f2), .int .i64 ((l0.getD y17.toNat z38).f3), .int .i64 ((l0.getD y17.toNat z38).f4), .string ((l0.getD y17.toNat z38).f5)] 38 (0, 0))]) (by repeat first | exact List.Mem.head _ | apply List.Mem.tail)), ?_⟩
                  refine WA.front (i := 6) rfl ?_
                  refine WA.front (i := 7) rfl ?_
                  rw [Option.bind_eq_some_iff] at h
                  obtain ⟨t39, ht40, h⟩ := h
                  refine WA.op (i := 17) (m := 1) (b' := 262143) (by kernel_rfl) hS (by kernel_rfl) (op := .call { callee := (.value (.func 16)), args := #[(.tmp 53), (.tmp 60)], argTypes := #[27, 41] }) (ty := 3) (d := some 61) (g := none) (by kernel_rfl) (by kernel_rfl) (by kernel_rfl) (Does.call (Φ := fun v' G' Γ' => ∃ (AR41p0 : Option Addr), ∃ (cR41p0 : Nat), ∃ (CR41p0 : Chunk), v' = .int .i64 t39.1 ∧ Ow k36 G AR41p0 cR41p0 t39.2.f0 CR41p0 ∧ G = G' ∧ [(b14, .cells #[.slice AR41p0 t39.2.f0.length cR41p0] 30 (0, 0))] :: CR41p0 :: [(bR12, .cells #[mpv AR36p0_0, mpv AR36p0_1] 97 (0, 0))] :: CR36p0_0 :: CR36p0_1 :: [(b31, .cells #[.int .i64 ((l0.getD y17.toNat z38).f1), .int .i64 ((l0.getD y17.toNat z38).f2), .int .i64 ((l0.getD y17.toNat z38).f1), .int .i64 ((l0.getD y17.toNat z38).f2)] 32 (0, 0))] :: [(b28, .cells #[.int .i64 ((l0.getD y17.toNat z38).f1), .int .i64 ((l0.getD y17.toNat z38).f2), .int .i64 ((l0.getD y17.toNat z38).f1), .int .i64 ((l0.getD y17.toNat z38).f2)] 32 (0, 0))] :: [(b24, .cells #[.bool ((l0.getD y17.toNat z38).f0), .int .i64 ((l0.getD y17.toNat z38).f1), .int .i64 ((l0.getD y17.toNat z38).f2), .int .i64 ((l0.getD y17.toNat z38).f3), .int .i64 ((l0.getD y17.toNat z38).f4), .string ((l0.getD y17.toNat z38).f5)] 38 (0, 0))] :: Γ = Γ') (f := 16) (args := [.pointer (some ⟨b14, 0, none⟩), .slice (some ⟨b31, 0, none⟩) ([(⟨(l0.getD y17.toNat z38).f1, (l0.getD y17.toNat z38).f2⟩ : T32), (⟨(l0.getD y17.toNat z38).f1, (l0.getD y17.toNat z38).f2⟩ : T32)] : List T32).length 2]) (by kernel_rfl) (fun W hI => (Calls.lendN (Φ := fun v' N => ∃ (AR41p0 : Option Addr), ∃ (cR41p0 : Nat), ∃ (CR41p0 : Chunk), v' = .int .i64 t39.1 ∧ Ow k36 G AR41p0 cR41p0 t39.2.f0 CR41p0 ∧ N = [[(b14, .cells #[.slice AR41p0 t39.2.f0.length cR41p0] 30 (0, 0))], CR41p0]) (H := [[(b14, .cells #[.slice Ay18_f0 y18.f0.length cy18_f0] 30 (0, 0))], Cy18_f0]) (i := 3) rfl hI (fun _ e l43 nl43 hI => by subst e; exact (((grapevineref12_Tree_Drop_calls kn21 y18 ([(⟨(l0.getD y17.toNat z38).f1, (l0.getD y17.toNat z38).f2⟩ : T32), (⟨(l0.getD y17.toNat z38).f1, (l0.getD y17.toNat z38).f2⟩ : T32)] : List T32) b14 Ay18_f0 cy18_f0 Cy18_f0 (Hy18_f0.mono l43) (some ⟨b31, 0, none⟩) 2 (Ho33.rdN l43 nl43) t39 ht40 hI)).mono fun _ _ hr => by obtain ⟨_, _, _, rfl, hd, hI⟩ := hr; obtain ⟨AR41p0, cR41p0, CR41p0, rfl, HR41p0, rfl, rfl⟩ := hd; exact ⟨_, _, _, rfl, ⟨[[(b14, .cells #[.slice AR41p0 t39.2.f0.length cR41p0] 30 (0, 0))], CR41p0], ⟨AR41p0, cR41p0, CR41p0, rfl, (HR41p0.flat (kFlat_flat _ _ _ _)), rfl⟩, rfl, rfl⟩, hI⟩))).mono fun _ _ hr => by obtain ⟨_, _, _, rfl, ⟨_, hd, rfl, rfl⟩, hI⟩ := hr; obtain ⟨AR41p0, cR41p0, CR41p0, rfl, HR41p0, rfl⟩ := hd; exact ⟨_, _, _, rfl, ⟨AR41p0, cR41p0, CR41p0, rfl, HR41p0, rfl, rfl⟩, hI⟩)) ?_
                  rintro _ _ _ ⟨AR41p0, cR41p0, CR41p0, rfl, HR41p0, rfl, rfl⟩
                  refine ⟨_, _, Under.refl, (Under.mem (C := [(b24, .cells #[.bool ((l0.getD y17.toNat z38).f0), .int .i64 ((l0.getD y17.toNat z38).f1), .int .i64 ((l0.getD y17.toNat z38).f2), .int .i64 ((l0.getD y17.toNat z38).f3), .int .i64 ((l0.getD y17.toNat z38).f4), .string ((l0.getD y17.toNat z38).f5)] 38 (0, 0))]) (by repeat first | exact List.Mem.head _ | apply List.Mem.tail)), ?_⟩
                  refine WA.pure [18] [0, 1, 2, 3, 9, 10, 11, 62] (m := 0) (b' := 524287) (L' := [(0, .slice Al0 l0.length cl0), (1, .int .i64 a1), (2, .int .i64 a2), (3, .int .i64 a3), (9, .pointer (some ⟨bR12, 0, none⟩)), (10, .pointer (some ⟨b14, 0, none⟩)), (11, .int .i64 y17), (62, .bool (t34.1 != t39.1))]) (by kernel_rfl) (NoPanic.then (NoPanic.then (NoPanic.block (NoPanic.then (NoPanic.then (NoPanic.block (NoPanic.then (NoPanic.then (NoPanic.body))))))))) (Under.mem (C := [(b24, .cells #[.bool ((l0.getD y17.toNat z38).f0), .int .i64 ((l0.getD y17.toNat z38).f1), .int .i64 ((l0.getD y17.toNat z38).f2), .int .i64 ((l0.getD y17.toNat z38).f3), .int .i64 ((l0.getD y17.toNat z38).f4), .string ((l0.getD y17.toNat z38).f5)] 38 (0, 0))]) (by repeat first | exact List.Mem.head _ | apply List.Mem.tail)) hS (by kernel_rfl) ?_
                  refine WA.done hS (by kernel_rfl) ?_
                  refine QP.pick [0, 1, 2, 3, 9, 10, 11, 62] ?_
                  refine QP.dropAt 7 ?_
                  refine QP.dropAt 6 ?_
                  refine QP.dropAt 5 ?_
                  refine QP.pick [0, 1, 2, 3, 9, 10, 11, 62] ?_
                  exact QP.meet ⟨_, Option.some.inj h, AR41p0, cR41p0, CR41p0, AR36p0_0, cR36p0_0, CR36p0_0, AR36p0_1, cR36p0_1, CR36p0_1, rfl, rfl, rfl, HR41p0, HR36p0_0, HR36p0_1⟩
              · refine WO.op (b' := 130687) (by kernel_rfl) (op := .buildSlice 41 2 #[(0, (.tmp 56)), (1, (.tmp 59))]) (ty := 41) (d := some 60) (g := none) (by kernel_rfl) (by kernel_rfl) (by kernel_rfl) (Does.new (o := .cells #[.int .i64 ((l0.getD y17.toNat z38).f1), .int .i64 ((l0.getD y17.toNat z38).f2), .int .i64 ((l0.getD y17.toNat z38).f1), .int .i64 ((l0.getD y17.toNat z38).f2)] 32 (0, 0)) (v := fun r => .slice (some ⟨r, 0, none⟩) 2 2) (fun r => by kernel_rfl)) ?_
                rintro _ _ _ ⟨b28, rfl, rfl, rfl⟩
                refine ⟨_, _, Under.refl, (Under.mem (C := [(b24, .cells #[.bool ((l0.getD y17.toNat z38).f0), .int .i64 ((l0.getD y17.toNat z38).f1), .int .i64 ((l0.getD y17.toNat z38).f2), .int .i64 ((l0.getD y17.toNat z38).f3), .int .i64 ((l0.getD y17.toNat z38).f4), .string ((l0.getD y17.toNat z38).f5)] 38 (0, 0))]) (by repeat first | exact List.Mem.head _ | apply List.Mem.tail)), ?_⟩
                have Ho30 : Ow k32 G (some ⟨b28, 0, none⟩) 2 ([(⟨(l0.getD y17.toNat z38).f1, (l0.getD y17.toNat z38).f2⟩ : T32), (⟨(l0.getD y17.toNat z38).f1, (l0.getD y17.toNat z38).f2⟩ : T32)] : List T32) [(b28, .cells #[.int .i64 ((l0.getD y17.toNat z38).f1), .int .i64 ((l0.getD y17.toNat z38).f2), .int .i64 ((l0.getD y17.toNat z38).f1), .int .i64 ((l0.getD y17.toNat z38).f2)] 32 (0, 0))] := Ow.lit (kd := k32) (G := G) (b := b28) (T := 32) (xs := ([(⟨(l0.getD y17.toNat z38).f1, (l0.getD y17.toNat z38).f2⟩ : T32), (⟨(l0.getD y17.toNat z38).f1, (l0.getD y17.toNat z38).f2⟩ : T32)] : List T32)) (cs := [.int .i64 ((l0.getD y17.toNat z38).f1), .int .i64 ((l0.getD y17.toNat z38).f2), .int .i64 ((l0.getD y17.toNat z38).f1), .int .i64 ((l0.getD y17.toNat z38).f2)]) (.cons (x := (⟨(l0.getD y17.toNat z38).f1, (l0.getD y17.toNat z38).f2⟩ : T32)) (cs := [.int .i64 ((l0.getD y17.toNat z38).f1), .int .i64 ((l0.getD y17.toNat z38).f2)]) (by exact rfl) (.cons (x := (⟨(l0.getD y17.toNat z38).f1, (l0.getD y17.toNat z38).f2⟩ : T32)) (cs := [.int .i64 ((l0.getD y17.toNat z38).f1), .int .i64 ((l0.getD y17.toNat z38).f2)]) (by exact rfl) .nil))
                refine WA.op (i := 7) (m := 3) (b' := 130815) (by kernel_rfl) hS (by kernel_rfl) (op := .buildSlice 41 2 #[(0, (.tmp 47)), (1, (.tmp 50))]) (ty := 41) (d := some 51) (g := none) (by kernel_rfl) (by kernel_rfl) (by kernel_rfl) (Does.new (o := .cells #[.int .i64 ((l0.getD y17.toNat z38).f1), .int .i64 ((l0.getD y17.toNat z38).f2), .int .i64 ((l0.getD y17.toNat z38).f1), .int .i64 ((l0.getD y17.toNat z38).f2)] 32 (0, 0)) (v := fun r => .slice (some ⟨r, 0, none⟩) 2 2) (fun r => by kernel_rfl)) ?_
                rintro _ _ _ ⟨b31, rfl, rfl, rfl⟩
                refine ⟨_, _, Under.refl, (Under.mem (C := [(b24, .cells #[.bool ((l0.getD y17.toNat z38).f0), .int .i64 ((l0.getD y17.toNat z38).f1), .int .i64 ((l0.getD y17.toNat z38).f2), .int .i64 ((l0.getD y17.toNat z38).f3), .int .i64 ((l0.getD y17.toNat z38).f4), .string ((l0.getD y17.toNat z38).f5)] 38 (0, 0))]) (by repeat first | exact List.Mem.head _ | apply List.Mem.tail)), ?_⟩
                have Ho33 : Ow k32 G (some ⟨b31, 0, none⟩) 2 ([(⟨(l0.getD y17.toNat z38).f1, (l0.getD y17.toNat z38).f2⟩ : T32), (⟨(l0.getD y17.toNat z38).f1, (l0.getD y17.toNat z38).f2⟩ : T32)] : List T32) [(b31, .cells #[.int .i64 ((l0.getD y17.toNat z38).f1), .int .i64 ((l0.getD y17.toNat z38).f2), .int .i64 ((l0.getD y17.toNat z38).f1), .int .i64 ((l0.getD y17.toNat z38).f2)] 32 (0, 0))] := Ow.lit (kd := k32) (G := G) (b := b31) (T := 32) (xs := ([(⟨(l0.getD y17.toNat z38).f1, (l0.getD y17.toNat z38).f2⟩ : T32), (⟨(l0.getD y17.toNat z38).f1, (l0.getD y17.toNat z38).f2⟩ : T32)] : List T32)) (cs := [.int .i64 ((l0.getD y17.toNat z38).f1), .int .i64 ((l0.getD y17.toNat z38).f2), .int .i64 ((l0.getD y17.toNat z38).f1), .int .i64 ((l0.getD y17.toNat z38).f2)]) (.cons (x := (⟨(l0.getD y17.toNat z38).f1, (l0.getD y17.toNat z38).f2⟩ : T32)) (cs := [.int .i64 ((l0.getD y17.toNat z38).f1), .int .i64 ((l0.getD y17.toNat z38).f2)]) (by exact rfl) (.cons (x := (⟨(l0.getD y17.toNat z38).f1, (l0.getD y17.toNat z38).f2⟩ : T32)) (cs := [.int .i64 ((l0.getD y17.toNat z38).f1), .int .i64 ((l0.getD y17.toNat z38).f2)]) (by exact rfl) .nil))
                refine WA.front (i := 7) rfl ?_
                refine WA.front (i := 7) rfl ?_
                refine WA.front (i := 7) rfl ?_
                rw [Option.bind_eq_some_iff] at h
                obtain ⟨t34, ht35, h⟩ := h
                refine WA.op (i := 8) (m := 2) (b' := 131071) (by kernel_rfl) hS (by kernel_rfl) (op := .call { callee := (.value (.func 15)), args := #[(.tmp 44), (.tmp 51)], argTypes := #[25, 41] }) (ty := 3) (d := some 52) (g := none) (by kernel_rfl) (by kernel_rfl) (by kernel_rfl) (Does.call (Φ := fun v' G' Γ' => ∃ (AR36p0_0 : Option Addr), ∃ (cR36p0_0 : Nat), ∃ (CR36p0_0 : Chunk), ∃ (AR36p0_1 : Option Addr), ∃ (cR36p0_1 : Nat), ∃ (CR36p0_1 : Chunk), v' = .int .i64 t34.1 ∧ MpO m94 G AR36p0_0 cR36p0_0 t34.2.f0 CR36p0_0 ∧ MpO m95 G AR36p0_1 cR36p0_1 t34.2.f1 CR36p0_1 ∧ G = G' ∧ [(bR12, .cells #[mpv AR36p0_0, mpv AR36p0_1] 97 (0, 0))] :: CR36p0_0 :: CR36p0_1 :: [(b31, .cells #[.int .i64 ((l0.getD y17.toNat z38).f1), .int .i64 ((l0.getD y17.toNat z38).f2), .int .i64 ((l0.getD y17.toNat z38).f1), .int .i64 ((l0.getD y17.toNat z38).f2)] 32 (0, 0))] :: [(b28, .cells #[.int .i64 ((l0.getD y17.toNat z38).f1), .int .i64 ((l0.getD y17.toNat z38).f2), .int .i64 ((l0.getD y17.toNat z38).f1), .int .i64 ((l0.getD y17.toNat z38).f2)] 32 (0, 0))] :: [(b24, .cells #[.bool ((l0.getD y17.toNat z38).f0), .int .i64 ((l0.getD y17.toNat z38).f1), .int .i64 ((l0.getD y17.toNat z38).f2), .int .i64 ((l0.getD y17.toNat z38).f3), .int .i64 ((l0.getD y17.toNat z38).f4), .string ((l0.getD y17.toNat z38).f5)] 38 (0, 0))] :: Cy18_f0 :: [(b14, .cells #[.slice Ay18_f0 y18.f0.length cy18_f0] 30 (0, 0))] :: Γ = Γ') (f := 15) (args := [.pointer (some ⟨bR12, 0, none⟩), .slice (some ⟨b31, 0, none⟩) ([(⟨(l0.getD y17.toNat z38).f1, (l0.getD y17.toNat z38).f2⟩ : T32), (⟨(l0.getD y17.toNat z38).f1, (l0.getD y17.toNat z38).f2⟩ : T32)] : List T32).length 2]) (by kernel_rfl) (fun W hI => (Calls.lendN (Φ := fun v' N => ∃ (AR36p0_0 : Option Addr), ∃ (cR36p0_0 : Nat), ∃ (CR36p0_0 : Chunk), ∃ (AR36p0_1 : Option Addr), ∃ (cR36p0_1 : Nat), ∃ (CR36p0_1 : Chunk), v' = .int .i64 t34.1 ∧ MpO m94 G AR36p0_0 cR36p0_0 t34.2.f0 CR36p0_0 ∧ MpO m95 G AR36p0_1 cR36p0_1 t34.2.f1 CR36p0_1 ∧ N = [[(bR12, .cells #[mpv AR36p0_0, mpv AR36p0_1] 97 (0, 0))], CR36p0_0, CR36p0_1]) (H := [[(bR12, .cells #[mpv Ay19_f0, mpv Ay19_f1] 97 (0, 0))], Cy19_f0, Cy19_f1]) (i := 0) rfl hI (fun _ e l38 nl38 hI => by subst e; exact (((tree_Tree_Drop_calls kn21 y19 ([(⟨(l0.getD y17.toNat z38).f1, (l0.getD y17.toNat z38).f2⟩ : T32), (⟨(l0.getD y17.toNat z38).f1, (l0.getD y17.toNat z38).f2⟩ : T32)] : List T32) bR12 Ay19_f0 cy19_f0 Cy19_f0 (Hy19_f0.mono l38) Ay19_f1 cy19_f1 Cy19_f1 (Hy19_f1.mono l38) (some ⟨b31, 0, none⟩) 2 (Ho33.rdN l38 nl38) t34 ht35 hI)).mono fun _ _ hr => by obtain ⟨_, _, _, rfl, hd, hI⟩ := hr; obtain ⟨AR36p0_0, cR36p0_0, CR36p0_0, AR36p0_1, cR36p0_1, CR36p0_1, rfl, HR36p0_0, HR36p0_1, rfl, rfl⟩ := hd; exact ⟨_, _, _, rfl, ⟨[[(bR12, .cells #[mpv AR36p0_0, mpv AR36p0_1] 97 (0, 0))], CR36p0_0, CR36p0_1], ⟨AR36p0_0, cR36p0_0, CR36p0_0, AR36p0_1, cR36p0_1, CR36p0_1, rfl, (HR36p0_0.flat ()), (HR36p0_1.flat ()), rfl⟩, rfl, rfl⟩, hI⟩))).mono fun _ _ hr => by obtain ⟨_, _, _, rfl, ⟨_, hd, rfl, rfl⟩, hI⟩ := hr; obtain ⟨AR36p0_0, cR36p0_0, CR36p0_0, AR36p0_1, cR36p0_1, CR36p0_1, rfl, HR36p0_0, HR36p0_1, rfl⟩ := hd; exact ⟨_, _, _, rfl, ⟨AR36p0_0, cR36p0_0, CR36p0_0, AR36p0_1, cR36p0_1, CR36p0_1, rfl, HR36p0_0, HR36p0_1, rfl, rfl⟩, hI⟩)) ?_
                rintro _ _ _ ⟨AR36p0_0, cR36p0_0, CR36p0_0, AR36p0_1, cR36p0_1, CR36p0_1, rfl, HR36p0_0, HR36p0_1, rfl, rfl⟩
                refine ⟨_, _, Under.refl, (Under.mem (C := [(b24, .cells #[.bool ((l0.getD y17.toNat z38).f0), .int .i64 ((l0.getD y17.toNat z38).f1), .int .i64 ((l0.getD y17.toNat z38).f2), .int .i64 ((l0.getD y17.toNat z38).f3), .int .i64 ((l0.getD y17.toNat z38).f4), .string ((l0.getD y17.toNat z38).f5)] 38 (0, 0))]) (by repeat first | exact List.Mem.head _ | apply List.Mem.tail)), ?_⟩
                refine WA.front (i := 6) rfl ?_
                refine WA.front (i := 7) rfl ?_
                rw [Option.bind_eq_some_iff] at h
                obtain ⟨t39, ht40, h⟩ := h
                refine WA.op (i := 17) (m := 1) (b' := 262143) (by kernel_rfl) hS (by kernel_rfl) (op := .call { callee := (.value (.func 16)), args := #[(.tmp 53), (.tmp 60)], argTypes := #[27, 41] }) (ty := 3) (d := some 61) (g := none) (by kernel_rfl) (by kernel_rfl) (by kernel_rfl) (Does.call (Φ := fun v' G' Γ' => ∃ (AR41p0 : Option Addr), ∃ (cR41p0 : Nat), ∃ (CR41p0 : Chunk), v' = .int .i64 t39.1 ∧ Ow k36 G AR41p0 cR41p0 t39.2.f0 CR41p0 ∧ G = G' ∧ [(b14, .cells #[.slice AR41p0 t39.2.f0.length cR41p0] 30 (0, 0))] :: CR41p0 :: [(bR12, .cells #[mpv AR36p0_0, mpv AR36p0_1] 97 (0, 0))] :: CR36p0_0 :: CR36p0_1 :: [(b31, .cells #[.int .i64 ((l0.getD y17.toNat z38).f1), .int .i64 ((l0.getD y17.toNat z38).f2), .int .i64 ((l0.getD y17.toNat z38).f1), .int .i64 ((l0.getD y17.toNat z38).f2)] 32 (0, 0))] :: [(b28, .cells #[.int .i64 ((l0.getD y17.toNat z38).f1), .int .i64 ((l0.getD y17.toNat z38).f2), .int .i64 ((l0.getD y17.toNat z38).f1), .int .i64 ((l0.getD y17.toNat z38).f2)] 32 (0, 0))] :: [(b24, .cells #[.bool ((l0.getD y17.toNat z38).f0), .int .i64 ((l0.getD y17.toNat z38).f1), .int .i64 ((l0.getD y17.toNat z38).f2), .int .i64 ((l0.getD y17.toNat z38).f3), .int .i64 ((l0.getD y17.toNat z38).f4), .string ((l0.getD y17.toNat z38).f5)] 38 (0, 0))] :: Γ = Γ') (f := 16) (args := [.pointer (some ⟨b14, 0, none⟩), .slice (some ⟨b28, 0, none⟩) ([(⟨(l0.getD y17.toNat z38).f1, (l0.getD y17.toNat z38).f2⟩ : T32), (⟨(l0.getD y17.toNat z38).f1, (l0.getD y17.toNat z38).f2⟩ : T32)] : List T32).length 2]) (by kernel_rfl) (fun W hI => (Calls.lendN (Φ := fun v' N => ∃ (AR41p0 : Option Addr), ∃ (cR41p0 : Nat), ∃ (CR41p0 : Chunk), v' = .int .i64 t39.1 ∧ Ow k36 G AR41p0 cR41p0 t39.2.f0 CR41p0 ∧ N = [[(b14, .cells #[.slice AR41p0 t39.2.f0.length cR41p0] 30 (0, 0))], CR41p0]) (H := [[(b14, .cells #[.slice Ay18_f0 y18.f0.length cy18_f0] 30 (0, 0))], Cy18_f0]) (i := 4) rfl hI (fun _ e l43 nl43 hI => by subst e; exact (((grapevineref12_Tree_Drop_calls kn21 y18 ([(⟨(l0.getD y17.toNat z38).f1, (l0.getD y17.toNat z38).f2⟩ : T32), (⟨(l0.getD y17.toNat z38).f1, (l0.getD y17.toNat z38).f2⟩ : T32)] : List T32) b14 Ay18_f0 cy18_f0 Cy18_f0 (Hy18_f0.mono l43) (some ⟨b28, 0, none⟩) 2 (Ho30.rdN l43 nl43) t39 ht40 hI)).mono fun _ _ hr => by obtain ⟨_, _, _, rfl, hd, hI⟩ := hr; obtain ⟨AR41p0, cR41p0, CR41p0, rfl, HR41p0, rfl, rfl⟩ := hd; exact ⟨_, _, _, rfl, ⟨[[(b14, .cells #[.slice AR41p0 t39.2.f0.length cR41p0] 30 (0, 0))], CR41p0], ⟨AR41p0, cR41p0, CR41p0, rfl, (HR41p0.flat (kFlat_flat _ _ _ _)), rfl⟩, rfl, rfl⟩, hI⟩))).mono fun _ _ hr => by obtain ⟨_, _, _, rfl, ⟨_, hd, rfl, rfl⟩, hI⟩ := hr; obtain ⟨AR41p0, cR41p0, CR41p0, rfl, HR41p0, rfl⟩ := hd; exact ⟨_, _, _, rfl, ⟨AR41p0, cR41p0, CR41p0, rfl, HR41p0, rfl, rfl⟩, hI⟩)) ?_
                rintro _ _ _ ⟨AR41p0, cR41p0, CR41p0, rfl, HR41p0, rfl, rfl⟩
                refine ⟨_, _, Under.refl, (Under.mem (C := [(b24, .cells #[.bool ((l0.getD y17.toNat z38).f0), .int .i64 ((l0.getD y17.toNat z38).f1), .int .i64 ((l0.getD y17.toNat z38).f2), .int .i64 ((l0.getD y17.toNat z38).f3), .int .i64 ((l0.getD y17.toNat z38).f4), .string ((l0.getD y17.toNat z38).f5)] 38 (0, 0))]) (by repeat first | exact List.Mem.head _ | apply List.Mem.tail)), ?_⟩
                refine WA.pure [18] [0, 1, 2, 3, 9, 10, 11, 62] (m := 0) (b' := 524287) (L' := [(0, .slice Al0 l0.length cl0), (1, .int .i64 a1), (2, .int .i64 a2), (3, .int .i64 a3), (9, .pointer (some ⟨bR12, 0, none⟩)), (10, .pointer (some ⟨b14, 0, none⟩)), (11, .int .i64 y17), (62, .bool (t34.1 != t39.1))]) (by kernel_rfl) (NoPanic.then (NoPanic.then (NoPanic.block (NoPanic.then (NoPanic.then (NoPanic.block (NoPanic.then (NoPanic.then (NoPanic.body))))))))) (Under.mem (C := [(b24, .cells #[.bool ((l0.getD y17.toNat z38).f0), .int .i64 ((l0.getD y17.toNat z38).f1), .int .i64 ((l0.getD y17.toNat z38).f2), .int .i64 ((l0.getD y17.toNat z38).f3), .int .i64 ((l0.getD y17.toNat z38).f4), .string ((l0.getD y17.toNat z38).f5)] 38 (0, 0))]) (by repeat first | exact List.Mem.head _ | apply List.Mem.tail)) hS (by kernel_rfl) ?_
                refine WA.done hS (by kernel_rfl) ?_
                refine QP.pick [0, 1, 2, 3, 9, 10, 11, 62] ?_
                refine QP.dropAt 7 ?_
                refine QP.dropAt 6 ?_
                refine QP.dropAt 5 ?_
                refine QP.pick [0, 1, 2, 3, 9, 10, 11, 62] ?_
                exact QP.meet ⟨_, Option.some.inj h, AR41p0, cR41p0, CR41p0, AR36p0_0, cR36p0_0, CR36p0_0, AR36p0_1, cR36p0_1, CR36p0_1, rfl, rfl, rfl, HR41p0, HR36p0_0, HR36p0_1⟩
            · rintro _ _ _ ⟨s26, rfl, As26_2_1_f0, cs26_2_1_f0, Cs26_2_1_f0, As26_2_2_f0, cs26_2_2_f0, Cs26_2_2_f0, As26_2_2_f1, cs26_2_2_f1, Cs26_2_2_f1, rfl, rfl, rfl, Hs26_2_1_f0, Hs26_2_2_f0, Hs26_2_2_f1⟩
              clear h
              replace h := hk27
              refine WP.cond (b := s26.1) (by kernel_rfl) (fun hc => ?_) (fun hc => ?_)
              · replace hc := hc
                rw [if_pos hc] at h
                have hc44 := hc
                clear hc
                refine WP.seqP [8] (L' := [(8, .bool false)]) (by kernel_rfl) ?_
                refine WP.dropAt 4 ?_
                refine WP.dropAt 3 ?_
                refine WP.dropAt 2 ?_
                refine WP.dropAt 1 ?_
                refine WP.dropAt 0 ?_
                refine WP.ret ?_
                refine QP.thenR ?_
                refine QP.blockR ?_
                refine QP.thenR ?_
                refine QP.thenR ?_
                refine QP.blockR ?_
                refine QP.thenR ?_
                refine QP.thenR ?_
                obtain rfl := Option.some.inj h
                obtain rfl := Option.some.inj (show some _ = some _ from hk16)
                exact QP.returned [8] [.bool false] _ (by kernel_rfl) (by kernel_rfl) (by kernel_rfl) (fun W hI => ⟨_, _, _, rfl, ⟨rfl, rfl, rfl⟩, hI⟩)
              · replace hc := (Bool.eq_false_iff.1 hc)
                rw [if_neg hc] at h
                have hc44 := hc
                clear hc
                refine WP.skip ?_
                refine QP.next ?_
                refine WP.pick [0, 1, 2, 3, 9, 10, 11] ?_
                refine WP.seqR ?_
                refine WL.pure 0 4 [0, 1, 2, 3, 9, 10, 11, 79, 80, 81, 82] (L' := [(0, .slice Al0 l0.length cl0), (1, .int .i64 a1), (2, .int .i64 a2), (3, .int .i64 a3), (9, .pointer (some ⟨bR12, 0, none⟩)), (10, .pointer (some ⟨b14, 0, none⟩)), (11, .int .i64 y17), (79, .pointer (some ⟨bR12, 0, none⟩)), (80, .int .i64 a1), (81, .int .i64 a2), (82, .int .i64 a3)]) (by kernel_rfl) (by decide) ?_
                refine WL.front (i := 4) rfl ?_
                refine WL.front (i := 4) rfl ?_
                refine WL.front (i := 4) rfl ?_
                rw [Option.bind_eq_some_iff] at h
                obtain ⟨t45, ht46, h⟩ := h
                refine WL.op (op := .call { callee := (.value (.func 19)), args := #[(.tmp 79), (.tmp 80), (.tmp 81), (.tmp 82)], argTypes := #[25, 3, 3, 3] }) (ty := 45) (d := some 83) (g := none) (by kernel_rfl) (by kernel_rfl) (by kernel_rfl) (Does.call (f := 19) (args := [.pointer (some ⟨bR12, 0, none⟩), .int .i64 a1, .int .i64 a2, .int .i64 a3]) (by kernel_rfl) (fun W hI => (tree_Tree_Sum_calls kn21 s26.2.2 a1 a2 a3 bR12 As26_2_2_f0 cs26_2_2_f0 Cs26_2_2_f0 Hs26_2_2_f0 As26_2_2_f1 cs26_2_2_f1 Cs26_2_2_f1 Hs26_2_2_f1 t45 ht46 hI))) ?_
                rintro _ _ _ ⟨rfl, rfl, rfl⟩
                refine WL.restQ 5 [0, 1, 2, 3, 9, 10, 11, 13, 14] (L' := [(0, .slice Al0 l0.length cl0), (1, .int .i64 a1), (2, .int .i64 a2), (3, .int .i64 a3), (9, .pointer (some ⟨bR12, 0, none⟩)), (10, .pointer (some ⟨b14, 0, none⟩)), (11, .int .i64 y17), (13, .int .u64 t45.1), (14, .bool t45.2)]) (by kernel_rfl) ?_
                refine WP.seqR ?_
                refine WL.pure 0 4 [0, 1, 2, 3, 9, 10, 11, 13, 14, 87, 88, 89, 90] (L' := [(0, .slice Al0 l0.length cl0), (1, .int .i64 a1), (2, .int .i64 a2), (3, .int .i64 a3), (9, .pointer (some ⟨bR12, 0, none⟩)), (10, .pointer (some ⟨b14, 0, none⟩)), (11, .int .i64 y17), (13, .int .u64 t45.1), (14, .bool t45.2), (87, .pointer (some ⟨b14, 0, none⟩)), (88, .int .i64 a1), (89, .int .i64 a2), (90, .int .i64 a3)]) (by kernel_rfl) (by decide) ?_
                refine WL.front (i := 4) rfl ?_
                refine WL.front (i := 4) rfl ?_
                rw [Option.bind_eq_some_iff] at h
                obtain ⟨t49, ht50, h⟩ := h
                refine WL.op (op := .call { callee := (.value (.func 20)), args := #[(.tmp 87), (.tmp 88), (.tmp 89), (.tmp 90)], argTypes := #[27, 3, 3, 3] }) (ty := 45) (d := some 91) (g := none) (by kernel_rfl) (by kernel_rfl) (by kernel_rfl) (Does.call (f := 20) (args := [.pointer (some ⟨b14, 0, none⟩), .int .i64 a1, .int .i64 a2, .int .i64 a3]) (by kernel_rfl) (fun W hI => (grapevineref12_Tree_Sum_calls HT kn21 s26.2.1 a1 a2 a3 b14 As26_2_1_f0 cs26_2_1_f0 Cs26_2_1_f0 Hs26_2_1_f0 t49 ht50 hI))) ?_
                rintro _ _ _ ⟨rfl, rfl, rfl⟩
                refine WL.restQ 5 [0, 1, 2, 3, 9, 10, 11, 13, 14, 15, 16] (L' := [(0, .slice Al0 l0.length cl0), (1, .int .i64 a1), (2, .int .i64 a2), (3, .int .i64 a3), (9, .pointer (some ⟨bR12, 0, none⟩)), (10, .pointer (some ⟨b14, 0, none⟩)), (11, .int .i64 y17), (13, .int .u64 t45.1), (14, .bool t45.2), (15, .int .u64 t49.1), (16, .bool t49.2)]) (by kernel_rfl) ?_
                rw [Option.bind_eq_some_iff] at h
                obtain ⟨os53, h, hk54⟩ := h
                refine WP.cut (fun L' G' Γ' => ∃ s53 : Bool, s53 = os53 ∧ L' = [(0, .slice Al0 l0.length cl0), (1, .int .i64 a1), (2, .int .i64 a2), (3, .int .i64 a3), (9, .pointer (some ⟨bR12, 0, none⟩)), (10, .pointer (some ⟨b14, 0, none⟩)), (11, .int .i64 y17), (111, .bool s53)] ∧ G = G' ∧ [(b14, .cells #[.slice As26_2_1_f0 s26.2.1.f0.length cs26_2_1_f0] 30 (0, 0))] :: Cs26_2_1_f0 :: [(bR12, .cells #[mpv As26_2_2_f0, mpv As26_2_2_f1] 97 (0, 0))] :: Cs26_2_2_f0 :: Cs26_2_2_f1 :: Γ = Γ') ?_ ?_
                · clear hk54
                  skip
                  refine WP.any (N := 18) (S := [⟨some 94, [13], []⟩, ⟨some 95, [15], []⟩, ⟨some 96, [94, 95], [0, 1]⟩, ⟨some 97, [96], [2]⟩, ⟨some 98, [14, 97], [3]⟩, ⟨some 99, [16, 97], [3]⟩, ⟨some 100, [97, 98, 99], [3, 4, 5]⟩, ⟨some 101, [97, 100], [3, 6]⟩, ⟨some 102, [101], [3, 7]⟩, ⟨some 103, [9, 102], [8]⟩, ⟨some 104, [102, 103], [8, 9]⟩, ⟨some 105, [10, 102], [8]⟩, ⟨some 106, [102, 105], [8, 11]⟩, ⟨some 107, [102, 106], [8, 12]⟩, ⟨some 108, [102, 107], [8, 13]⟩, ⟨some 109, [102, 108], [8, 14]⟩, ⟨some 110, [102, 104, 109], [8, 10, 15]⟩, ⟨some 111, [102, 110], [8, 16]⟩]) (kw := 18) (G0 := G) (Γ0 := [(b14, .cells #[.slice As26_2_1_f0 s26.2.1.f0.length cs26_2_1_f0] 30 (0, 0))] :: Cs26_2_1_f0 :: [(bR12, .cells #[mpv As26_2_2_f0, mpv As26_2_2_f1] 97 (0, 0))] :: Cs26_2_2_f0 :: Cs26_2_2_f1 :: Γ) mo (by kernel_rfl) (fun hS => ?_)
                  refine WA.pure [0, 1, 2, 3] [0, 1, 2, 3, 9, 10, 11, 14, 16, 97] (m := 14) (b' := 15) (L' := [(0, .slice Al0 l0.length cl0), (1, .int .i64 a1), (2, .int .i64 a2), (3, .int .i64 a3), (9, .pointer (some ⟨bR12, 0, none⟩)), (10, .pointer (some ⟨b14, 0, none⟩)), (11, .int .i64 y17), (14, .bool t45.2), (16, .bool t49.2), (97, .bool (t45.1 != t49.1))]) (by kernel_rfl) (NoPanic.then (NoPanic.block (NoPanic.then (NoPanic.then (NoPanic.block (NoPanic.then (NoPanic.then (NoPanic.body)))))))) Under.refl hS (by kernel_rfl) ?_
                  refine WA.split 97 (b := (t45.1 != t49.1)) (by kernel_rfl) (fun hc => ?_) (fun hc => ?_)
                  · replace hc := (bne_iff_ne.1 hc)
                    rw [if_pos hc] at h
                    have hc55 := hc
                    clear hc
                    refine WA.pure [4, 5, 6, 7, 8, 9, 10, 11, 12, 13, 14, 15, 16, 17] [0, 1, 2, 3, 9, 10, 11, 111] (m := 0) (b' := 262143) (L' := [(0, .slice Al0 l0.length cl0), (1, .int .i64 a1), (2, .int .i64 a2), (3, .int .i64 a3), (9, .pointer (some ⟨bR12, 0, none⟩)), (10, .pointer (some ⟨b14, 0, none⟩)), (11, .int .i64 y17), (111, .bool true)]) (by kernel_rfl) (NoPanic.then (NoPanic.block (NoPanic.then (NoPanic.then (NoPanic.block (NoPanic.then (NoPanic.then (NoPanic.body)))))))) Under.refl hS (by kernel_rfl) ?_
                    refine WA.done hS (by kernel_rfl) ?_
                    refine QP.pick [0, 1, 2, 3, 9, 10, 11, 111] ?_
                    refine QP.pick [0, 1, 2, 3, 9, 10, 11, 111] ?_
                    exact QP.meet ⟨_, Option.some.inj h, rfl, rfl, rfl⟩
                  · replace hc := (not_not_intro (bne_eq_false_iff_eq.1 hc))
                    rw [if_neg hc] at h
                    have hc55 := hc
                    clear hc
                    refine WA.pure [4, 5, 6, 7, 8] [0, 1, 2, 3, 9, 10, 11, 102] (m := 9) (b' := 511) (L' := [(0, .slice Al0 l0.length cl0), (1, .int .i64 a1), (2, .int .i64 a2), (3, .int .i64 a3), (9, .pointer (some ⟨bR12, 0, none⟩)), (10, .pointer (some ⟨b14, 0, none⟩)), (11, .int .i64 y17), (102, .bool (!(t45.2 == t49.2)))]) (by kernel_rfl) (NoPanic.then (NoPanic.block (NoPanic.then (NoPanic.then (NoPanic.block (NoPanic.then (NoPanic.then (NoPanic.body)))))))) Under.refl hS (by kernel_rfl) ?_
                    refine WA.split 102 (b := (!(t45.2 == t49.2))) (by kernel_rfl) (fun hc => ?_) (fun hc => ?_)
                    · replace hc := hc
                      rw [if_pos hc] at h
                      have hc56 := hc
                      clear hc
                      refine WA.pure [9, 10, 11, 12, 13, 14, 15, 16, 17] [0, 1, 2, 3, 9, 10, 11, 111] (m := 0) (b' := 262143) (L' := [(0, .slice Al0 l0.length cl0), (1, .int .i64 a1), (2, .int .i64 a2), (3, .int .i64 a3), (9, .pointer (some ⟨bR12, 0, none⟩)), (10, .pointer (some ⟨b14, 0, none⟩)), (11, .int .i64 y17), (111, .bool true)]) (by kernel_rfl) (NoPanic.then (NoPanic.block (NoPanic.then (NoPanic.then (NoPanic.block (NoPanic.then (NoPanic.then (NoPanic.body)))))))) Under.refl hS (by kernel_rfl) ?_
                      refine WA.done hS (by kernel_rfl) ?_
                      refine QP.pick [0, 1, 2, 3, 9, 10, 11, 111] ?_
                      refine QP.pick [0, 1, 2, 3, 9, 10, 11, 111] ?_
                      exact QP.meet ⟨_, Option.some.inj h, rfl, rfl, rfl⟩
                    · replace hc := (Bool.eq_false_iff.1 hc)
                      rw [if_neg hc] at h
                      have hc56 := hc
                      clear hc
                      refine WA.pure [9, 11, 12, 13] [0, 1, 2, 3, 9, 10, 11, 102, 103, 107] (m := 5) (b' := 15359) (L' := [(0, .slice Al0 l0.length cl0), (1, .int .i64 a1), (2, .int .i64 a2), (3, .int .i64 a3), (9, .pointer (some ⟨bR12, 0, none⟩)), (10, .pointer (some ⟨b14, 0, none⟩)), (11, .int .i64 y17), (102, .bool false), (103, .pointer (some ⟨bR12, 0, none⟩)), (107, .pointer (some ⟨b14, 0, none⟩))]) (by kernel_rfl) (NoPanic.then (NoPanic.block (NoPanic.then (NoPanic.then (NoPanic.block (NoPanic.then (NoPanic.then (NoPanic.body)))))))) Under.refl hS (by kernel_rfl) ?_
                      refine WA.tellD [] (i := 14) (m := 4) (b' := 31743) (by kernel_rfl) (NoPanic.then (NoPanic.block (NoPanic.then (NoPanic.then (NoPanic.block (NoPanic.then (NoPanic.then (NoPanic.body)))))))) Under.refl hS (by kernel_rfl) (op := .load 28 (.tmp 107)) (ty := 28) (d := some 108) (g := some (8, false)) (by kernel_rfl) (by kernel_rfl) (by kernel_rfl) (Tells.load_box (i := 0) (b := b14) (o := 0) (agg := false) (by rfl) ag28 (by kernel_rfl) (fun _ => rfl) (Nat.le_of_ble_eq_true rfl) (v := .slice As26_2_1_f0 s26.2.1.f0.length cs26_2_1_f0) (by kernel_rfl)) ?_
                      refine WA.pure [15] [0, 1, 2, 3, 9, 10, 11, 102, 103, 109] (m := 3) (b' := 64511) (L' := [(0, .slice Al0 l0.length cl0), (1, .int .i64 a1), (2, .int .i64 a2), (3, .int .i64 a3), (9, .pointer (some ⟨bR12, 0, none⟩)), (10, .pointer (some ⟨b14, 0, none⟩)), (11, .int .i64 y17), (102, .bool false), (103, .pointer (some ⟨bR12, 0, none⟩)), (109, .int .i64 (s26.2.1.f0.length : Int))]) (by kernel_rfl) (NoPanic.then (NoPanic.block (NoPanic.then (NoPanic.then (NoPanic.block (NoPanic.then (NoPanic.then (NoPanic.body)))))))) Under.refl hS (by kernel_rfl) ?_
                      refine WA.front (i := 4) rfl ?_
                      refine WA.front (i := 4) rfl ?_
                      refine WA.front (i := 4) rfl ?_
                      rw [Option.bind_eq_some_iff] at h
                      obtain ⟨t57, ht58, h⟩ := h
                      refine WA.op (i := 10) (m := 2) (b' := 65535) (by kernel_rfl) hS (by kernel_rfl) (op := .call { callee := (.value (.func 21)), args := #[(.tmp 103)], argTypes := #[25] }) (ty := 3) (d := some 104) (g := some (8, false)) (by kernel_rfl) (by kernel_rfl) (by kernel_rfl) (Does.call (f := 21) (args := [.pointer (some ⟨bR12, 0, none⟩)]) (by kernel_rfl) (fun W hI => (tree_Tree_Len_calls s26.2.2 bR12 As26_2_2_f0 cs26_2_2_f0 Cs26_2_2_f0 Hs26_2_2_f0 As26_2_2_f1 cs26_2_2_f1 Cs26_2_2_f1 Hs26_2_2_f1 t57 ht58 hI))) ?_
                      rintro _ _ _ ⟨rfl, rfl, rfl⟩
                      refine ⟨_, _, (Under.trans (Under.front (i := 4) rfl (Under.front (i := 4) rfl (Under.front (i := 4) rfl (Under.refl)))) (Under.refl)), Under.refl, ?_⟩
                      refine WA.pure [16, 17] [0, 1, 2, 3, 9, 10, 11, 111] (m := 0) (b' := 262143) (L' := [(0, .slice Al0 l0.length cl0), (1, .int .i64 a1), (2, .int .i64 a2), (3, .int .i64 a3), (9, .pointer (some ⟨bR12, 0, none⟩)), (10, .pointer (some ⟨b14, 0, none⟩)), (11, .int .i64 y17), (111, .bool (t57 != (s26.2.1.f0.length : Int)))]) (by kernel_rfl) (NoPanic.then (NoPanic.block (NoPanic.then (NoPanic.then (NoPanic.block (NoPanic.then (NoPanic.then (NoPanic.body)))))))) Under.refl hS (by kernel_rfl) ?_
                      refine WA.done hS (by kernel_rfl) ?_
                      refine QP.pick [0, 1, 2, 3, 9, 10, 11, 111] ?_
                      refine QP.front (i := 2) rfl ?_
                      refine QP.front (i := 2) rfl ?_
                      refine QP.front (i := 2) rfl ?_
                      refine QP.front (i := 4) rfl ?_
                      refine QP.front (i := 4) rfl ?_
                      refine QP.pick [0, 1, 2, 3, 9, 10, 11, 111] ?_
                      exact QP.meet ⟨_, Option.some.inj h, rfl, rfl, rfl⟩
                · rintro _ _ _ ⟨s53, rfl, rfl, rfl, rfl⟩
                  clear h
                  replace h := hk54
                  refine WP.cond (b := s53) (by kernel_rfl) (fun hc => ?_) (fun hc => ?_)
                  · replace hc := hc
                    rw [if_pos hc] at h
                    have hc61 := hc
                    clear hc
                    refine WP.seqP [8] (L' := [(8, .bool false)]) (by kernel_rfl) ?_
                    refine WP.dropAt 4 ?_
                    refine WP.dropAt 3 ?_
                    refine WP.dropAt 2 ?_
                    refine WP.dropAt 1 ?_
                    refine WP.dropAt 0 ?_
                    refine WP.ret ?_
                    refine QP.blockR ?_
                    refine QP.thenR ?_
                    refine QP.thenR ?_
                    refine QP.blockR ?_
                    refine QP.thenR ?_
                    refine QP.thenR ?_
                    obtain rfl := Option.some.inj h
                    obtain rfl := Option.some.inj (show some _ = some _ from hk16)
                    exact QP.returned [8] [.bool false] _ (by kernel_rfl) (by kernel_rfl) (by kernel_rfl) (fun W hI => ⟨_, _, _, rfl, ⟨rfl, rfl, rfl⟩, hI⟩)
                  · replace hc := (Bool.eq_false_iff.1 hc)
                    rw [if_neg hc] at h
                    have hc61 := hc
                    clear hc
                    refine WP.skip ?_
                    refine QP.blockN ?_
                    refine QP.next ?_
                    refine WP.pick [0, 1, 2, 3, 9, 10, 11] ?_
                    refine WP.regionP [0, 1, 2, 3, 9, 10, 11] (L' := [(0, .slice Al0 l0.length cl0), (1, .int .i64 a1), (2, .int .i64 a2), (3, .int .i64 a3), (9, .pointer (some ⟨bR12, 0, none⟩)), (10, .pointer (some ⟨b14, 0, none⟩)), (11, .int .i64 (IntKind.i64.wrap (y17 + 1)))]) (by kernel_rfl) ?_
                    refine QP.front (i := 4) rfl ?_
                    refine QP.front (i := 4) rfl ?_
                    refine QP.front (i := 4) rfl ?_
                    refine QP.front (i := 3) rfl ?_
                    refine QP.front (i := 4) rfl ?_
                    refine QP.pick [0, 1, 2, 3, 9, 10, 11] ?_
                    exact QP.meet ⟨kn21, Nat.lt_succ_self _, (IntKind.i64.wrap (y17 + 1)), s26.2.1, s26.2.2, h, As26_2_1_f0, cs26_2_1_f0, Cs26_2_1_f0, As26_2_2_f0, cs26_2_2_f0, Cs26_2_2_f0, As26_2_2_f1, cs26_2_2_f1, Cs26_2_2_f1, rfl, rfl, rfl, Hs26_2_1_f0, Hs26_2_2_f0, Hs26_2_2_f1⟩
          · replace hc := (Bool.eq_false_iff.1 hc)
            rw [if_neg hc] at h
            have hc25 := hc
            clear hc
            rw [Option.bind_eq_some_iff] at h
            obtain ⟨os62, h, hk63⟩ := h
            refine WP.cut (fun L' G' Γ' => ∃ s62 : Bool × T30 × T97, s62 = os62 ∧ ∃ (As62_2_1_f0 : Option Addr), ∃ (cs62_2_1_f0 : Nat), ∃ (Cs62_2_1_f0 : Chunk), ∃ (As62_2_2_f0 : Option Addr), ∃ (cs62_2_2_f0 : Nat), ∃ (Cs62_2_2_f0 : Chunk), ∃ (As62_2_2_f1 : Option Addr), ∃ (cs62_2_2_f1 : Nat), ∃ (Cs62_2_2_f1 : Chunk), L' = [(0, .slice Al0 l0.length cl0), (1, .int .i64 a1), (2, .int .i64 a2), (3, .int .i64 a3), (9, .pointer (some ⟨bR12, 0, none⟩)), (10, .pointer (some ⟨b14, 0, none⟩)), (11, .int .i64 y17), (77, .bool s62.1)] ∧ G = G' ∧ [(b14, .cells #[.slice As62_2_1_f0 s62.2.1.f0.length cs62_2_1_f0] 30 (0, 0))] :: Cs62_2_1_f0 :: [(bR12, .cells #[mpv As62_2_2_f0, mpv As62_2_2_f1] 97 (0, 0))] :: Cs62_2_2_f0 :: Cs62_2_2_f1 :: Γ = Γ' ∧ Ow k36 G As62_2_1_f0 cs62_2_1_f0 s62.2.1.f0 Cs62_2_1_f0 ∧ MpO m94 G As62_2_2_f0 cs62_2_2_f0 s62.2.2.f0 Cs62_2_2_f0 ∧ MpO m95 G As62_2_2_f1 cs62_2_2_f1 s62.2.2.f1 Cs62_2_2_f1) ?_ ?_
            · clear hk63
              skip
              refine WP.any (N := 15) (S := [⟨some 63, [9], []⟩, ⟨some 64, [12], []⟩, ⟨some 65, [64], [1]⟩, ⟨some 66, [12], []⟩, ⟨some 67, [66], [3]⟩, ⟨some 68, [65, 67], [2, 4]⟩, ⟨some 69, [63, 68], [0, 5]⟩, ⟨some 70, [10], []⟩, ⟨some 71, [12], []⟩, ⟨some 72, [71], [8]⟩, ⟨some 73, [12], []⟩, ⟨some 74, [73], [10]⟩, ⟨some 75, [72, 74], [9, 11]⟩, ⟨some 76, [70, 75], [6, 7, 12]⟩, ⟨some 77, [69, 76], [6, 13]⟩]) (kw := 15) (G0 := G) (Γ0 := [[(b24, .cells #[.bool ((l0.getD y17.toNat z38).f0), .int .i64 ((l0.getD y17.toNat z38).f1), .int .i64 ((l0.getD y17.toNat z38).f2), .int .i64 ((l0.getD y17.toNat z38).f3), .int .i64 ((l0.getD y17.toNat z38).f4), .string ((l0.getD y17.toNat z38).f5)] 38 (0, 0))]]) mo (by kernel_rfl) (fun hS => ?_)
              refine WA.pure [0, 1, 3, 7, 8, 10] [0, 1, 2, 3, 9, 10, 11, 63, 64, 66, 70, 71, 73] (m := 9) (b' := 1419) (L' := [(0, .slice Al0 l0.length cl0), (1, .int .i64 a1), (2, .int .i64 a2), (3, .int .i64 a3), (9, .pointer (some ⟨bR12, 0, none⟩)), (10, .pointer (some ⟨b14, 0, none⟩)), (11, .int .i64 y17), (63, .pointer (some ⟨bR12, 0, none⟩)), (64, .pointer (some ⟨b24, 1, none⟩)), (66, .pointer (some ⟨b24, 1, none⟩)), (70, .pointer (some ⟨b14, 0, none⟩)), (71, .pointer (some ⟨b24, 1, none⟩)), (73, .pointer (some ⟨b24, 1, none⟩))]) (by kernel_rfl) (NoPanic.then (NoPanic.then (NoPanic.block (NoPanic.then (NoPanic.then (NoPanic.block (NoPanic.then (NoPanic.then (NoPanic.body))))))))) (Under.mem (C := [(b24, .cells #[.bool ((l0.getD y17.toNat z38).f0), .int .i64 ((l0.getD y17.toNat z38).f1), .int .i64 ((l0.getD y17.toNat z38).f2), .int .i64 ((l0.getD y17.toNat z38).f3), .int .i64 ((l0.getD y17.toNat z38).f4), .string ((l0.getD y17.toNat z38).f5)] 38 (0, 0))]) (by repeat first | exact List.Mem.head _ | apply List.Mem.tail)) hS (by kernel_rfl) ?_
              refine WA.tellD [] (i := 2) (m := 8) (b' := 1423) (by kernel_rfl) (NoPanic.then (NoPanic.then (NoPanic.block (NoPanic.then (NoPanic.then (NoPanic.block (NoPanic.then (NoPanic.then (NoPanic.body))))))))) (Under.mem (C := [(b24, .cells #[.bool ((l0.getD y17.toNat z38).f0), .int .i64 ((l0.getD y17.toNat z38).f1), .int .i64 ((l0.getD y17.toNat z38).f2), .int .i64 ((l0.getD y17.toNat z38).f3), .int .i64 ((l0.getD y17.toNat z38).f4), .string ((l0.getD y17.toNat z38).f5)] 38 (0, 0))]) (by repeat first | exact List.Mem.head _ | apply List.Mem.tail)) hS (by kernel_rfl) (op := .load 36 (.tmp 64)) (ty := 36) (d := some 65) (g := none) (by kernel_rfl) (by kernel_rfl) (by kernel_rfl) (Tells.load_box (i := 0) (b := b24) (o := 1) (agg := true) (by rfl) ag36 (by kernel_rfl) (fun h => by cases h) (Nat.le_of_ble_eq_true rfl) (v := .agg #[.int .i64 ((l0.getD y17.toNat z38).f1), .int .i64 ((l0.getD y17.toNat z38).f2), .int .i64 ((l0.getD y17.toNat z38).f3), .int .i64 ((l0.getD y17.toNat z38).f4), .string ((l0.getD y17.toNat z38).f5)]) (by kernel_rfl)) ?_
              refine WA.tellD [] (i := 4) (m := 7) (b' := 1439) (by kernel_rfl) (NoPanic.then (NoPanic.then (NoPanic.block (NoPanic.then (NoPanic.then (NoPanic.block (NoPanic.then (NoPanic.then (NoPanic.body))))))))) (Under.mem (C := [(b24, .cells #[.bool ((l0.getD y17.toNat z38).f0), .int .i64 ((l0.getD y17.toNat z38).f1), .int .i64 ((l0.getD y17.toNat z38).f2), .int .i64 ((l0.getD y17.toNat z38).f3), .int .i64 ((l0.getD y17.toNat z38).f4), .string ((l0.getD y17.toNat z38).f5)] 38 (0, 0))]) (by repeat first | exact List.Mem.head _ | apply List.Mem.tail)) hS (by kernel_rfl) (op := .load 36 (.tmp 66)) (ty := 36) (d := some 67) (g := none) (by kernel_rfl) (by kernel_rfl) (by kernel_rfl) (Tells.load_box (i := 0) (b := b24) (o := 1) (agg := true) (by rfl) ag36 (by kernel_rfl) (fun h => by cases h) (Nat.le_of_ble_eq_true rfl) (v := .agg #[.int .i64 ((l0.getD y17.toNat z38).f1), .int .i64 ((l0.getD y17.toNat z38).f2), .int .i64 ((l0.getD y17.toNat z38).f3), .int .i64 ((l0.getD y17.toNat z38).f4), .string ((l0.getD y17.toNat z38).f5)]) (by kernel_rfl)) ?_
              refine WA.tellD [] (i := 9) (m := 6) (b' := 1951) (by kernel_rfl) (NoPanic.then (NoPanic.then (NoPanic.block (NoPanic.then (NoPanic.then (NoPanic.block (NoPanic.then (NoPanic.then (NoPanic.body))))))))) (Under.mem (C := [(b24, .cells #[.bool ((l0.getD y17.toNat z38).f0), .int .i64 ((l0.getD y17.toNat z38).f1), .int .i64 ((l0.getD y17.toNat z38).f2), .int .i64 ((l0.getD y17.toNat z38).f3), .int .i64 ((l0.getD y17.toNat z38).f4), .string ((l0.getD y17.toNat z38).f5)] 38 (0, 0))]) (by repeat first | exact List.Mem.head _ | apply List.Mem.tail)) hS (by kernel_rfl) (op := .load 36 (.tmp 71)) (ty := 36) (d := some 72) (g := none) (by kernel_rfl) (by kernel_rfl) (by kernel_rfl) (Tells.load_box (i := 0) (b := b24) (o := 1) (agg := true) (by rfl) ag36 (by kernel_rfl) (fun h => by cases h) (Nat.le_of_ble_eq_true rfl) (v := .agg #[.int .i64 ((l0.getD y17.toNat z38).f1), .int .i64 ((l0.getD y17.toNat z38).f2), .int .i64 ((l0.getD y17.toNat z38).f3), .int .i64 ((l0.getD y17.toNat z38).f4), .string ((l0.getD y17.toNat z38).f5)]) (by kernel_rfl)) ?_
              refine WA.tellD [] (i := 11) (m := 5) (b' := 3999) (by kernel_rfl) (NoPanic.then (NoPanic.then (NoPanic.block (NoPanic.then (NoPanic.then (NoPanic.block (NoPanic.then (NoPanic.then (NoPanic.body))))))))) (Under.mem (C := [(b24, .cells #[.bool ((l0.getD y17.toNat z38).f0), .int .i64 ((l0.getD y17.toNat z38).f1), .int .i64 ((l0.getD y17.toNat z38).f2), .int .i64 ((l0.getD y17.toNat z38).f3), .int .i64 ((l0.getD y17.toNat z38).f4), .string ((l0.getD y17.toNat z38).f5)] 38 (0, 0))]) (by repeat first | exact List.Mem.head _ | apply List.Mem.tail)) hS (by kernel_rfl) (op := .load 36 (.tmp 73)) (ty := 36) (d := some 74) (g := none) (by kernel_rfl) (by kernel_rfl) (by kernel_rfl) (Tells.load_box (i := 0) (b := b24) (o := 1) (agg := true) (by rfl) ag36 (by kernel_rfl) (fun h => by cases h) (Nat.le_of_ble_eq_true rfl) (v := .agg #[.int .i64 ((l0.getD y17.toNat z38).f1), .int .i64 ((l0.getD y17.toNat z38).f2), .int .i64 ((l0.getD y17.toNat z38).f3), .int .i64 ((l0.getD y17.toNat z38).f4), .string ((l0.getD y17.toNat z38).f5)]) (by kernel_rfl)) ?_
              refine WA.two (i := 5) (j := 12) (m := 4) (by kernel_rfl) hS (by kernel_rfl) ?_ ?_
              · refine WO.op (b' := 4031) (by kernel_rfl) (op := .buildSlice 28 2 #[(0, (.tmp 65)), (1, (.tmp 67))]) (ty := 28) (d := some 68) (g := none) (by kernel_rfl) (by kernel_rfl) (by kernel_rfl) (Does.new (o := .cells #[.int .i64 ((l0.getD y17.toNat z38).f1), .int .i64 ((l0.getD y17.toNat z38).f2), .int .i64 ((l0.getD y17.toNat z38).f3), .int .i64 ((l0.getD y17.toNat z38).f4), .string ((l0.getD y17.toNat z38).f5), .int .i64 ((l0.getD y17.toNat z38).f1), .int .i64 ((l0.getD y17.toNat z38).f2), .int .i64 ((l0.getD y17.toNat z38).f3), .int .i64 ((l0.getD y17.toNat z38).f4), .string ((l0.getD y17.toNat z38).f5)] 36 (0, 0)) (v := fun r => .slice (some ⟨r, 0, none⟩) 2 2) (fun r => by kernel_rfl)) ?_
                rintro _ _ _ ⟨b64, rfl, rfl, rfl⟩
                refine ⟨_, _, Under.refl, (Under.mem (C := [(b24, .cells #[.bool ((l0.getD y17.toNat z38).f0), .int .i64 ((l0.getD y17.toNat z38).f1), .int .i64 ((l0.getD y17.toNat z38).f2), .int .i64 ((l0.getD y17.toNat z38).f3), .int .i64 ((l0.getD y17.toNat z38).f4), .string ((l0.getD y17.toNat z38).f5)] 38 (0, 0))]) (by repeat first | exact List.Mem.head _ | apply List.Mem.tail)), ?_⟩
                have Ho66 : Ow k36 G (some ⟨b64, 0, none⟩) 2 ([(⟨(l0.getD y17.toNat z38).f1, (l0.getD y17.toNat z38).f2, (l0.getD y17.toNat z38).f3, (l0.getD y17.toNat z38).f4, (l0.getD y17.toNat z38).f5⟩ : T36), (⟨(l0.getD y17.toNat z38).f1, (l0.getD y17.toNat z38).f2, (l0.getD y17.toNat z38).f3, (l0.getD y17.toNat z38).f4, (l0.getD y17.toNat z38).f5⟩ : T36)] : List T36) [(b64, .cells #[.int .i64 ((l0.getD y17.toNat z38).f1), .int .i64 ((l0.getD y17.toNat z38).f2), .int .i64 ((l0.getD y17.toNat z38).f3), .int .i64 ((l0.getD y17.toNat z38).f4), .string ((l0.getD y17.toNat z38).f5), .int .i64 ((l0.getD y17.toNat z38).f1), .int .i64 ((l0.getD y17.toNat z38).f2), .int .i64 ((l0.getD y17.toNat z38).f3), .int .i64 ((l0.getD y17.toNat z38).f4), .string ((l0.getD y17.toNat z38).f5)] 36 (0, 0))] := Ow.lit (kd := k36) (G := G) (b := b64) (T := 36) (xs := ([(⟨(l0.getD y17.toNat z38).f1, (l0.getD y17.toNat z38).f2, (l0.getD y17.toNat z38).f3, (l0.getD y17.toNat z38).f4, (l0.getD y17.toNat z38).f5⟩ : T36), (⟨(l0.getD y17.toNat z38).f1, (l0.getD y17.toNat z38).f2, (l0.getD y17.toNat z38).f3, (l0.getD y17.toNat z38).f4, (l0.getD y17.toNat z38).f5⟩ : T36)] : List T36)) (cs := [.int .i64 ((l0.getD y17.toNat z38).f1), .int .i64 ((l0.getD y17.toNat z38).f2), .int .i64 ((l0.getD y17.toNat z38).f3), .int .i64 ((l0.getD y17.toNat z38).f4), .string ((l0.getD y17.toNat z38).f5), .int .i64 ((l0.getD y17.toNat z38).f1), .int .i64 ((l0.getD y17.toNat z38).f2), .int .i64 ((l0.getD y17.toNat z38).f3), .int .i64 ((l0.getD y17.toNat z38).f4), .string ((l0.getD y17.toNat z38).f5)]) (.cons (x := (⟨(l0.getD y17.toNat z38).f1, (l0.getD y17.toNat z38).f2, (l0.getD y17.toNat z38).f3, (l0.getD y17.toNat z38).f4, (l0.getD y17.toNat z38).f5⟩ : T36)) (cs := [.int .i64 ((l0.getD y17.toNat z38).f1), .int .i64 ((l0.getD y17.toNat z38).f2), .int .i64 ((l0.getD y17.toNat z38).f3), .int .i64 ((l0.getD y17.toNat z38).f4), .string ((l0.getD y17.toNat z38).f5)]) (by exact rfl) (.cons (x := (⟨(l0.getD y17.toNat z38).f1, (l0.getD y17.toNat z38).f2, (l0.getD y17.toNat z38).f3, (l0.getD y17.toNat z38).f4, (l0.getD y17.toNat z38).f5⟩ : T36)) (cs := [.int .i64 ((l0.getD y17.toNat z38).f1), .int .i64 ((l0.getD y17.toNat z38).f2), .int .i64 ((l0.getD y17.toNat z38).f3), .int .i64 ((l0.getD y17.toNat z38).f4), .string ((l0.getD y17.toNat z38).f5)]) (by exact rfl) .nil))
                refine WA.two (i := 6) (j := 12) (m := 3) (by kernel_rfl) hS (by kernel_rfl) ?_ ?_
                · refine WO.front (i := 6) rfl ?_
                  refine WO.front (i := 6) rfl ?_
                  refine WO.front (i := 6) rfl ?_
                  rw [Option.bind_eq_some_iff] at h
                  obtain ⟨t67, ht68, h⟩ := h
                  refine WO.op (b' := 4095) (by kernel_rfl) (op := .call { callee := (.value (.func 17)), args := #[(.tmp 63), (.tmp 68)], argTypes := #[25, 28] }) (ty := 3) (d := some 69) (g := none) (by kernel_rfl) (by kernel_rfl) (by kernel_rfl) (Does.call (Φ := fun v' G' Γ' => ∃ (AR69p0_0 : Option Addr), ∃ (cR69p0_0 : Nat), ∃ (CR69p0_0 : Chunk), ∃ (AR69p0_1 : Option Addr), ∃ (cR69p0_1 : Nat), ∃ (CR69p0_1 : Chunk), v' = .int .i64 t67.1 ∧ MpO m94 G AR69p0_0 cR69p0_0 t67.2.f0 CR69p0_0 ∧ MpO m95 G AR69p0_1 cR69p0_1 t67.2.f1 CR69p0_1 ∧ G = G' ∧ [(bR12, .cells #[mpv AR69p0_0, mpv AR69p0_1] 97 (0, 0))] :: CR69p0_0 :: CR69p0_1 :: [(b64, .cells #[.int .i64 ((l0.getD y17.toNat z38).f1), .int .i64 ((l0.getD y17.toNat z38).f2), .int .i64 ((l0.getD y17.toNat z38).f3), .int .i64 ((l0.getD y17.toNat z38).f4), .string ((l0.getD y17.toNat z38).f5), .int .i64 ((l0.getD y17.toNat z38).f1), .int .i64 ((l0.getD y17.toNat z38).f2), .int .i64 ((l0.getD y17.toNat z38).f3), .int .i64 ((l0.getD y17.toNat z38).f4), .string ((l0.getD y17.toNat z38).f5)] 36 (0, 0))] :: [(b24, .cells #[.bool ((l0.getD y17.toNat z38).f0), .int .i64 ((l0.getD y17.toNat z38).f1), .int .i64 ((l0.getD y17.toNat z38).f2), .int .i64 ((l0.getD y17.toNat z38).f3), .int .i64 ((l0.getD y17.toNat z38).f4), .string ((l0.getD y17.toNat z38).f5)] 38 (0, 0))] :: Cy18_f0 :: [(b14, .cells #[.slice Ay18_f0 y18.f0.length cy18_f0] 30 (0, 0))] :: Γ = Γ') (f := 17) (args := [.pointer (some ⟨bR12, 0, none⟩), .slice (some ⟨b64, 0, none⟩) ([(⟨(l0.getD y17.toNat z38).f1, (l0.getD y17.toNat z38).f2, (l0.getD y17.toNat z38).f3, (l0.getD y17.toNat z38).f4, (l0.getD y17.toNat z38).f5⟩ : T36), (⟨(l0.getD y17.toNat z38).f1, (l0.getD y17.toNat z38).f2, (l0.getD y17.toNat z38).f3, (l0.getD y17.toNat z38).f4, (l0.getD y17.toNat z38).f5⟩ : T36)] : List T36).length 2]) (by kernel_rfl) (fun W hI => (Calls.lendN (Φ := fun v' N => ∃ (AR69p0_0 : Option Addr), ∃ (cR69p0_0 : Nat), ∃ (CR69p0_0 : Chunk), ∃ (AR69p0_1 : Option Addr), ∃ (cR69p0_1 : Nat), ∃ (CR69p0_1 : Chunk), v' = .int .i64 t67.1 ∧ MpO m94 G AR69p0_0 cR69p0_0 t67.2.f0 CR69p0_0 ∧ MpO m95 G AR69p0_1 cR69p0_1 t67.2.f1 CR69p0_1 ∧ N = [[(bR12, .cells #[mpv AR69p0_0, mpv AR69p0_1] 97 (0, 0))], CR69p0_0, CR69p0_1]) (H := [[(bR12, .cells #[mpv Ay19_f0, mpv Ay19_f1] 97 (0, 0))], Cy19_f0, Cy19_f1]) (i := 0) rfl hI (fun _ e l71 nl71 hI => by subst e; exact (((tree_Tree_Put_calls (HT.mono l71) kn21 y19 ([(⟨(l0.getD y17.toNat z38).f1, (l0.getD y17.toNat z38).f2, (l0.getD y17.toNat z38).f3, (l0.getD y17.toNat z38).f4, (l0.getD y17.toNat z38).f5⟩ : T36), (⟨(l0.getD y17.toNat z38).f1, (l0.getD y17.toNat z38).f2, (l0.getD y17.toNat z38).f3, (l0.getD y17.toNat z38).f4, (l0.getD y17.toNat z38).f5⟩ : T36)] : List T36) bR12 Ay19_f0 cy19_f0 Cy19_f0 (Hy19_f0.mono l71) Ay19_f1 cy19_f1 Cy19_f1 (Hy19_f1.mono l71) (some ⟨b64, 0, none⟩) 2 (Ho66.rdN l71 nl71) t67 ht68 hI)).mono fun _ _ hr => by obtain ⟨_, _, _, rfl, hd, hI⟩ := hr; obtain ⟨AR69p0_0, cR69p0_0, CR69p0_0, AR69p0_1, cR69p0_1, CR69p0_1, rfl, HR69p0_0, HR69p0_1, rfl, rfl⟩ := hd; exact ⟨_, _, _, rfl, ⟨[[(bR12, .cells #[mpv AR69p0_0, mpv AR69p0_1] 97 (0, 0))], CR69p0_0, CR69p0_1], ⟨AR69p0_0, cR69p0_0, CR69p0_0, AR69p0_1, cR69p0_1, CR69p0_1, rfl, (HR69p0_0.flat ()), (HR69p0_1.flat ()), rfl⟩, rfl, rfl⟩, hI⟩))).mono fun _ _ hr => by obtain ⟨_, _, _, rfl, ⟨_, hd, rfl, rfl⟩, hI⟩ := hr; obtain ⟨AR69p0_0, cR69p0_0, CR69p0_0, AR69p0_1, cR69p0_1, CR69p0_1, rfl, HR69p0_0, HR69p0_1, rfl⟩ := hd; exact ⟨_, _, _, rfl, ⟨AR69p0_0, cR69p0_0, CR69p0_0, AR69p0_1, cR69p0_1, CR69p0_1, rfl, HR69p0_0, HR69p0_1, rfl, rfl⟩, hI⟩)) ?_
                  rintro _ _ _ ⟨AR69p0_0, cR69p0_0, CR69p0_0, AR69p0_1, cR69p0_1, CR69p0_1, rfl, HR69p0_0, HR69p0_1, rfl, rfl⟩
                  refine ⟨_, _, Under.refl, (Under.mem (C := [(b24, .cells #[.bool ((l0.getD y17.toNat z38).f0), .int .i64 ((l0.getD y17.toNat z38).f1), .int .i64 ((l0.getD y17.toNat z38).f2), .int .i64 ((l0.getD y17.toNat z38).f3), .int .i64 ((l0.getD y17.toNat z38).f4), .string ((l0.getD y17.toNat z38).f5)] 38 (0, 0))]) (by repeat first | exact List.Mem.head _ | apply List.Mem.tail)), ?_⟩
                  refine WA.op (i := 12) (m := 2) (b' := 8191) (by kernel_rfl) hS (by kernel_rfl) (op := .buildSlice 28 2 #[(0, (.tmp 72)), (1, (.tmp 74))]) (ty := 28) (d := some 75) (g := none) (by kernel_rfl) (by kernel_rfl) (by kernel_rfl) (Does.new (o := .cells #[.int .i64 ((l0.getD y17.toNat z38).f1), .int .i64 ((l0.getD y17.toNat z38).f2), .int .i64 ((l0.getD y17.toNat z38).f3), .int .i64 ((l0.getD y17.toNat z38).f4), .string ((l0.getD y17.toNat z38).f5), .int .i64 ((l0.getD y17.toNat z38).f1), .int .i64 ((l0.getD y17.toNat z38).f2), .int .i64 ((l0.getD y17.toNat z38).f3), .int .i64 ((l0.getD y17.toNat z38).f4), .string ((l0.getD y17.toNat z38).f5)] 36 (0, 0)) (v := fun r => .slice (some ⟨r, 0, none⟩) 2 2) (fun r => by kernel_rfl)) ?_
                  rintro _ _ _ ⟨b72, rfl, rfl, rfl⟩
                  refine ⟨_, _, Under.refl, (Under.mem (C := [(b24, .cells #[.bool ((l0.getD y17.toNat z38).f0), .int .i64 ((l0.getD y17.toNat z38).f1), .int .i64 ((l0.getD y17.toNat z38).f2), .int .i64 ((l0.getD y17.toNat z38).f3), .int .i64 ((l0.getD y17.toNat z38).f4), .string ((l0.getD y17.toNat z38).f5)] 38 (0, 0))]) (by repeat first | exact List.Mem.head _ | apply List.Mem.tail)), ?_⟩
                  have Ho74 : Ow k36 G (some ⟨b72, 0, none⟩) 2 ([(⟨(l0.getD y17.toNat z38).f1, (l0.getD y17.toNat z38).f2, (l0.getD y17.toNat z38).f3, (l0.getD y17.toNat z38).f4, (l0.getD y17.toNat z38).f5⟩ : T36), (⟨(l0.getD y17.toNat z38).f1, (l0.getD y17.toNat z38).f2, (l0.getD y17.toNat z38).f3, (l0.getD y17.toNat z38).f4, (l0.getD y17.toNat z38).f5⟩ : T36)] : List T36) [(b72, .cells #[.int .i64 ((l0.getD y17.toNat z38).f1), .int .i64 ((l0.getD y17.toNat z38).f2), .int .i64 ((l0.getD y17.toNat z38).f3), .int .i64 ((l0.getD y17.toNat z38).f4), .string ((l0.getD y17.toNat z38).f5), .int .i64 ((l0.getD y17.toNat z38).f1), .int .i64 ((l0.getD y17.toNat z38).f2), .int .i64 ((l0.getD y17.toNat z38).f3), .int .i64 ((l0.getD y17.toNat z38).f4), .string ((l0.getD y17.toNat z38).f5)] 36 (0, 0))] := Ow.lit (kd := k36) (G := G) (b := b72) (T := 36) (xs := ([(⟨(l0.getD y17.toNat z38).f1, (l0.getD y17.toNat z38).f2, (l0.getD y17.toNat z38).f3, (l0.getD y17.toNat z38).f4, (l0.getD y17.toNat z38).f5⟩ : T36), (⟨(l0.getD y17.toNat z38).f1, (l0.getD y17.toNat z38).f2, (l0.getD y17.toNat z38).f3, (l0.getD y17.toNat z38).f4, (l0.getD y17.toNat z38).f5⟩ : T36)] : List T36)) (cs := [.int .i64 ((l0.getD y17.toNat z38).f1), .int .i64 ((l0.getD y17.toNat z38).f2), .int .i64 ((l0.getD y17.toNat z38).f3), .int .i64 ((l0.getD y17.toNat z38).f4), .string ((l0.getD y17.toNat z38).f5), .int .i64 ((l0.getD y17.toNat z38).f1), .int .i64 ((l0.getD y17.toNat z38).f2), .int .i64 ((l0.getD y17.toNat z38).f3), .int .i64 ((l0.getD y17.toNat z38).f4), .string ((l0.getD y17.toNat z38).f5)]) (.cons (x := (⟨(l0.getD y17.toNat z38).f1, (l0.getD y17.toNat z38).f2, (l0.getD y17.toNat z38).f3, (l0.getD y17.toNat z38).f4, (l0.getD y17.toNat z38).f5⟩ : T36)) (cs := [.int .i64 ((l0.getD y17.toNat z38).f1), .int .i64 ((l0.getD y17.toNat z38).f2), .int .i64 ((l0.getD y17.toNat z38).f3), .int .i64 ((l0.getD y17.toNat z38).f4), .string ((l0.getD y17.toNat z38).f5)]) (by exact rfl) (.cons (x := (⟨(l0.getD y17.toNat z38).f1, (l0.getD y17.toNat z38).f2, (l0.getD y17.toNat z38).f3, (l0.getD y17.toNat z38).f4, (l0.getD y17.toNat z38).f5⟩ : T36)) (cs := [.int .i64 ((l0.getD y17.toNat z38).f1), .int .i64 ((l0.getD y17.toNat z38).f2), .int .i64 ((l0.getD y17.toNat z38).f3), .int .i64 ((l0.getD y17.toNat z38).f4), .string ((l0.getD y17.toNat z38).f5)]) (by exact rfl) .nil))
                  refine WA.front (i := 6) rfl ?_
                  refine WA.front (i := 7) rfl ?_
                  rw [Option.bind_eq_some_iff] at h
                  obtain ⟨t75, ht76, h⟩ := h
                  refine WA.op (i := 13) (m := 1) (b' := 16383) (by kernel_rfl) hS (by kernel_rfl) (op := .call { callee := (.value (.func 18)), args := #[(.tmp 70), (.tmp 75)], argTypes := #[27, 28] }) (ty := 3) (d := some 76) (g := none) (by kernel_rfl) (by kernel_rfl) (by kernel_rfl) (Does.call (Φ := fun v' G' Γ' => ∃ (AR77p0 : Option Addr), ∃ (cR77p0 : Nat), ∃ (CR77p0 : Chunk), v' = .int .i64 t75.1 ∧ Ow k36 G AR77p0 cR77p0 t75.2.f0 CR77p0 ∧ G = G' ∧ [(b14, .cells #[.slice AR77p0 t75.2.f0.length cR77p0] 30 (0, 0))] :: CR77p0 :: [(b72, .cells #[.int .i64 ((l0.getD y17.toNat z38).f1), .int .i64 ((l0.getD y17.toNat z38).f2), .int .i64 ((l0.getD y17.toNat z38).f3), .int .i64 ((l0.getD y17.toNat z38).f4), .string ((l0.getD y17.toNat z38).f5), .int .i64 ((l0.getD y17.toNat z38).f1), .int .i64 ((l0.getD y17.toNat z38).f2), .int .i64 ((l0.getD y17.toNat z38).f3), .int .i64 ((l0.getD y17.toNat z38).f4), .string ((l0.getD y17.toNat z38).f5)] 36 (0, 0))] :: [(bR12, .cells #[mpv AR69p0_0, mpv AR69p0_1] 97 (0, 0))] :: CR69p0_0 :: CR69p0_1 :: [(b64, .cells #[.int .i64 ((l0.getD y17.toNat z38).f1), .int .i64 ((l0.getD y17.toNat z38).f2), .int .i64 ((l0.getD y17.toNat z38).f3), .int .i64 ((l0.getD y17.toNat z38).f4), .string ((l0.getD y17.toNat z38).f5), .int .i64 ((l0.getD y17.toNat z38).f1), .int .i64 ((l0.getD y17.toNat z38).f2), .int .i64 ((l0.getD y17.toNat z38).f3), .int .i64 ((l0.getD y17.toNat z38).f4), .string ((l0.getD y17.toNat z38).f5)] 36 (0, 0))] :: [(b24, .cells #[.bool ((l0.getD y17.toNat z38).f0), .int .i64 ((l0.getD y17.toNat z38).f1), .int .i64 ((l0.getD y17.toNat z38).f2), .int .i64 ((l0.getD y17.toNat z38).f3), .int .i64 ((l0.getD y17.toNat z38).f4), .string ((l0.getD y17.toNat z38).f5)] 38 (0, 0))] :: Γ = Γ') (f := 18) (args := [.pointer (some ⟨b14, 0, none⟩), .slice (some ⟨b72, 0, none⟩) ([(⟨(l0.getD y17.toNat z38).f1, (l0.getD y17.toNat z38).f2, (l0.getD y17.toNat z38).f3, (l0.getD y17.toNat z38).f4, (l0.getD y17.toNat z38).f5⟩ : T36), (⟨(l0.getD y17.toNat z38).f1, (l0.getD y17.toNat z38).f2, (l0.getD y17.toNat z38).f3, (l0.getD y17.toNat z38).f4, (l0.getD y17.toNat z38).f5⟩ : T36)] : List T36).length 2]) (by kernel_rfl) (fun W hI => (Calls.lendN (Φ := fun v' N => ∃ (AR77p0 : Option Addr), ∃ (cR77p0 : Nat), ∃ (CR77p0 : Chunk), v' = .int .i64 t75.1 ∧ Ow k36 G AR77p0 cR77p0 t75.2.f0 CR77p0 ∧ N = [[(b14, .cells #[.slice AR77p0 t75.2.f0.length cR77p0] 30 (0, 0))], CR77p0]) (H := [[(b14, .cells #[.slice Ay18_f0 y18.f0.length cy18_f0] 30 (0, 0))], Cy18_f0]) (i := 0) rfl hI (fun _ e l79 nl79 hI => by subst e; exact (((grapevineref12_Tree_Put_calls (HT.mono l79) kn21 y18 ([(⟨(l0.getD y17.toNat z38).f1, (l0.getD y17.toNat z38).f2, (l0.getD y17.toNat z38).f3, (l0.getD y17.toNat z38).f4, (l0.getD y17.toNat z38).f5⟩ : T36), (⟨(l0.getD y17.toNat z38).f1, (l0.getD y17.toNat z38).f2, (l0.getD y17.toNat z38).f3, (l0.getD y17.toNat z38).f4, (l0.getD y17.toNat z38).f5⟩ : T36)] : List T36) b14 Ay18_f0 cy18_f0 Cy18_f0 (Hy18_f0.mono l79) (some ⟨b72, 0, none⟩) 2 (Ho74.rdN l79 nl79) t75 ht76 hI)).mono fun _ _ hr => by obtain ⟨_, _, _, rfl, hd, hI⟩ := hr; obtain ⟨AR77p0, cR77p0, CR77p0, rfl, HR77p0, rfl, rfl⟩ := hd; exact ⟨_, _, _, rfl, ⟨[[(b14, .cells #[.slice AR77p0 t75.2.f0.length cR77p0] 30 (0, 0))], CR77p0], ⟨AR77p0, cR77p0, CR77p0, rfl, (HR77p0.flat (kFlat_flat _ _ _ _)), rfl⟩, rfl, rfl⟩, hI⟩))).mono fun _ _ hr => by obtain ⟨_, _, _, rfl, ⟨_, hd, rfl, rfl⟩, hI⟩ := hr; obtain ⟨AR77p0, cR77p0, CR77p0, rfl, HR77p0, rfl⟩ := hd; exact ⟨_, _, _, rfl, ⟨AR77p0, cR77p0, CR77p0, rfl, HR77p0, rfl, rfl⟩, hI⟩)) ?_
                  rintro _ _ _ ⟨AR77p0, cR77p0, CR77p0, rfl, HR77p0, rfl, rfl⟩
                  refine ⟨_, _, Under.refl, (Under.mem (C := [(b24, .cells #[.bool ((l0.getD y17.toNat z38).f0), .int .i64 ((l0.getD y17.toNat z38).f1), .int .i64 ((l0.getD y17.toNat z38).f2), .int .i64 ((l0.getD y17.toNat z38).f3), .int .i64 ((l0.getD y17.toNat z38).f4), .string ((l0.getD y17.toNat z38).f5)] 38 (0, 0))]) (by repeat first | exact List.Mem.head _ | apply List.Mem.tail)), ?_⟩
                  refine WA.pure [14] [0, 1, 2, 3, 9, 10, 11, 77] (m := 0) (b' := 32767) (L' := [(0, .slice Al0 l0.length cl0), (1, .int .i64 a1), (2, .int .i64 a2), (3, .int .i64 a3), (9, .pointer (some ⟨bR12, 0, none⟩)), (10, .pointer (some ⟨b14, 0, none⟩)), (11, .int .i64 y17), (77, .bool (t67.1 != t75.1))]) (by kernel_rfl) (NoPanic.then (NoPanic.then (NoPanic.block (NoPanic.then (NoPanic.then (NoPanic.block (NoPanic.then (NoPanic.then (NoPanic.body))))))))) (Under.mem (C := [(b24, .cells #[.bool ((l0.getD y17.toNat z38).f0), .int .i64 ((l0.getD y17.toNat z38).f1), .int .i64 ((l0.getD y17.toNat z38).f2), .int .i64 ((l0.getD y17.toNat z38).f3), .int .i64 ((l0.getD y17.toNat z38).f4), .string ((l0.getD y17.toNat z38).f5)] 38 (0, 0))]) (by repeat first | exact List.Mem.head _ | apply List.Mem.tail)) hS (by kernel_rfl) ?_
                  refine WA.done hS (by kernel_rfl) ?_
                  refine QP.pick [0, 1, 2, 3, 9, 10, 11, 77] ?_
                  refine QP.dropAt 7 ?_
                  refine QP.dropAt 6 ?_
                  refine QP.dropAt 2 ?_
                  refine QP.pick [0, 1, 2, 3, 9, 10, 11, 77] ?_
                  exact QP.meet ⟨_, Option.some.inj h, AR77p0, cR77p0, CR77p0, AR69p0_0, cR69p0_0, CR69p0_0, AR69p0_1, cR69p0_1, CR69p0_1, rfl, rfl, rfl, HR77p0, HR69p0_0, HR69p0_1⟩
                · refine WO.op (b' := 8127) (by kernel_rfl) (op := .buildSlice 28 2 #[(0, (.tmp 72)), (1, (.tmp 74))]) (ty := 28) (d := some 75) (g := none) (by kernel_rfl) (by kernel_rfl) (by kernel_rfl) (Does.new (o := .cells #[.int .i64 ((l0.getD y17.toNat z38).f1), .int .i64 ((l0.getD y17.toNat z38).f2), .int .i64 ((l0.getD y17.toNat z38).f3), .int .i64 ((l0.getD y17.toNat z38).f4), .string ((l0.getD y17.toNat z38).f5), .int .i64 ((l0.getD y17.toNat z38).f1), .int .i64 ((l0.getD y17.toNat z38).f2), .int .i64 ((l0.getD y17.toNat z38).f3), .int .i64 ((l0.getD y17.toNat z38).f4), .string ((l0.getD y17.toNat z38).f5)] 36 (0, 0)) (v := fun r => .slice (some ⟨r, 0, none⟩) 2 2) (fun r => by kernel_rfl)) ?_
                  rintro _ _ _ ⟨b67, rfl, rfl, rfl⟩
                  refine ⟨_, _, Under.refl, (Under.mem (C := [(b24, .cells #[.bool ((l0.getD y17.toNat z38).f0), .int .i64 ((l0.getD y17.toNat z38).f1), .int .i64 ((l0.getD y17.toNat z38).f2), .int .i64 ((l0.getD y17.toNat z38).f3), .int .i64 ((l0.getD y17.toNat z38).f4), .string ((l0.getD y17.toNat z38).f5)] 38 (0, 0))]) (by repeat first | exact List.Mem.head _ | apply List.Mem.tail)), ?_⟩
                  have Ho69 : Ow k36 G (some ⟨b67, 0, none⟩) 2 ([(⟨(l0.getD y17.toNat z38).f1, (l0.getD y17.toNat z38).f2, (l0.getD y17.toNat z38).f3, (l0.getD y17.toNat z38).f4, (l0.getD y17.toNat z38).f5⟩ : T36), (⟨(l0.getD y17.toNat z38).f1, (l0.getD y17.toNat z38).f2, (l0.getD y17.toNat z38).f3, (l0.getD y17.toNat z38).f4, (l0.getD y17.toNat z38).f5⟩ : T36)] : List T36) [(b67, .cells #[.int .i64 ((l0.getD y17.toNat z38).f1), .int .i64 ((l0.getD y17.toNat z38).f2), .int .i64 ((l0.getD y17.toNat z38).f3), .int .i64 ((l0.getD y17.toNat z38).f4), .string ((l0.getD y17.toNat z38).f5), .int .i64 ((l0.getD y17.toNat z38).f1), .int .i64 ((l0.getD y17.toNat z38).f2), .int .i64 ((l0.getD y17.toNat z38).f3), .int .i64 ((l0.getD y17.toNat z38).f4), .string ((l0.getD y17.toNat z38).f5)] 36 (0, 0))] := Ow.lit (kd := k36) (G := G) (b := b67) (T := 36) (xs := ([(⟨(l0.getD y17.toNat z38).f1, (l0.getD y17.toNat z38).f2, (l0.getD y17.toNat z38).f3, (l0.getD y17.toNat z38).f4, (l0.getD y17.toNat z38).f5⟩ : T36), (⟨(l0.getD y17.toNat z38).f1, (l0.getD y17.toNat z38).f2, (l0.getD y17.toNat z38).f3, (l0.getD y17.toNat z38).f4, (l0.getD y17.toNat z38).f5⟩ : T36)] : List T36)) (cs := [.int .i64 ((l0.getD y17.toNat z38).f1), .int .i64 ((l0.getD y17.toNat z38).f2), .int .i64 ((l0.getD y17.toNat z38).f3), .int .i64 ((l0.getD y17.toNat z38).f4), .string ((l0.getD y17.toNat z38).f5), .int .i64 ((l0.getD y17.toNat z38).f1), .int .i64 ((l0.getD y17.toNat z38).f2), .int .i64 ((l0.getD y17.toNat z38).f3), .int .i64 ((l0.getD y17.toNat z38).f4), .string ((l0.getD y17.toNat z38).f5)]) (.cons (x := (⟨(l0.getD y17.toNat z38).f1, (l0.getD y17.toNat z38).f2, (l0.getD y17.toNat z38).f3, (l0.getD y17.toNat z38).f4, (l0.getD y17.toNat z38).f5⟩ : T36)) (cs := [.int .i64 ((l0.getD y17.toNat z38).f1), .int .i64 ((l0.getD y17.toNat z38).f2), .int .i64 ((l0.getD y17.toNat z38).f3), .int .i64 ((l0.getD y17.toNat z38).f4), .string ((l0.getD y17.toNat z38).f5)]) (by exact rfl) (.cons (x := (⟨(l0.getD y17.toNat z38).f1, (l0.getD y17.toNat z38).f2, (l0.getD y17.toNat z38).f3, (l0.getD y17.toNat z38).f4, (l0.getD y17.toNat z38).f5⟩ : T36)) (cs := [.int .i64 ((l0.getD y17.toNat z38).f1), .int .i64 ((l0.getD y17.toNat z38).f2), .int .i64 ((l0.getD y17.toNat z38).f3), .int .i64 ((l0.getD y17.toNat z38).f4), .string ((l0.getD y17.toNat z38).f5)]) (by exact rfl) .nil))
                  refine WA.front (i := 7) rfl ?_
                  refine WA.front (i := 7) rfl ?_
                  refine WA.front (i := 7) rfl ?_
                  rw [Option.bind_eq_some_iff] at h
                  obtain ⟨t70, ht71, h⟩ := h
                  refine WA.op (i := 6) (m := 2) (b' := 8191) (by kernel_rfl) hS (by kernel_rfl) (op := .call { callee := (.value (.func 17)), args := #[(.tmp 63), (.tmp 68)], argTypes := #[25, 28] }) (ty := 3) (d := some 69) (g := none) (by kernel_rfl) (by kernel_rfl) (by kernel_rfl) (Does.call (Φ := fun v' G' Γ' => ∃ (AR72p0_0 : Option Addr), ∃ (cR72p0_0 : Nat), ∃ (CR72p0_0 : Chunk), ∃ (AR72p0_1 : Option Addr), ∃ (cR72p0_1 : Nat), ∃ (CR72p0_1 : Chunk), v' = .int .i64 t70.1 ∧ MpO m94 G AR72p0_0 cR72p0_0 t70.2.f0 CR72p0_0 ∧ MpO m95 G AR72p0_1 cR72p0_1 t70.2.f1 CR72p0_1 ∧ G = G' ∧ [(bR12, .cells #[mpv AR72p0_0, mpv AR72p0_1] 97 (0, 0))] :: CR72p0_0 :: CR72p0_1 :: [(b67, .cells #[.int .i64 ((l0.getD y17.toNat z38).f1), .int .i64 ((l0.getD y17.toNat z38).f2), .int .i64 ((l0.getD y17.toNat z38).f3), .int .i64 ((l0.getD y17.toNat z38).f4), .string ((l0.getD y17.toNat z38).f5), .int .i64 ((l0.getD y17.toNat z38).f1), .int .i64 ((l0.getD y17.toNat z38).f2), .int .i64 ((l0.getD y17.toNat z38).f3), .int .i64 ((l0.getD y17.toNat z38).f4), .string ((l0.getD y17.toNat z38).f5)] 36 (0, 0))] :: [(b64, .cells #[.int .i64 ((l0.getD y17.toNat z38).f1), .int .i64 ((l0.getD y17.toNat z38).f2), .int .i64 ((l0.getD y17.toNat z38).f3), .int .i64 ((l0.getD y17.toNat z38).f4), .string ((l0.getD y17.toNat z38).f5), .int .i64 ((l0.getD y17.toNat z38).f1), .int .i64 ((l0.getD y17.toNat z38).f2), .int .i64 ((l0.getD y17.toNat z38).f3), .int .i64 ((l0.getD y17.toNat z38).f4), .string ((l0.getD y17.toNat z38).f5)] 36 (0, 0))] :: [(b24, .cells #[.bool ((l0.getD y17.toNat z38).f0), .int .i64 ((l0.getD y17.toNat z38).f1), .int .i64 ((l0.getD y17.toNat z38).f2), .int .i64 ((l0.getD y17.toNat z38).f3), .int .i64 ((l0.getD y17.toNat z38).f4), .string ((l0.getD y17.toNat z38).f5)] 38 (0, 0))] :: Cy18_f0 :: [(b14, .cells #[.slice Ay18_f0 y18.f0.length cy18_f0] 30 (0, 0))] :: Γ = Γ') (f := 17) (args := [.pointer (some ⟨bR12, 0, none⟩), .slice (some ⟨b64, 0, none⟩) ([(⟨(l0.getD y17.toNat z38).f1, (l0.getD y17.toNat z38).f2, (l0.getD y17.toNat z38).f3, (l0.getD y17.toNat z38).f4, (l0.getD y17.toNat z38).f5⟩ : T36), (⟨(l0.getD y17.toNat z38).f1, (l0.getD y17.toNat z38).f2, (l0.getD y17.toNat z38).f3, (l0.getD y17.toNat z38).f4, (l0.getD y17.toNat z38).f5⟩ : T36)] : List T36).length 2]) (by kernel_rfl) (fun W hI => (Calls.lendN (Φ := fun v' N => ∃ (AR72p0_0 : Option Addr), ∃ (cR72p0_0 : Nat), ∃ (CR72p0_0 : Chunk), ∃ (AR72p0_1 : Option Addr), ∃ (cR72p0_1 : Nat), ∃ (CR72p0_1 : Chunk), v' = .int .i64 t70.1 ∧ MpO m94 G AR72p0_0 cR72p0_0 t70.2.f0 CR72p0_0 ∧ MpO m95 G AR72p0_1 cR72p0_1 t70.2.f1 CR72p0_1 ∧ N = [[(bR12, .cells #[mpv AR72p0_0, mpv AR72p0_1] 97 (0, 0))], CR72p0_0, CR72p0_1]) (H := [[(bR12, .cells #[mpv Ay19_f0, mpv Ay19_f1] 97 (0, 0))], Cy19_f0, Cy19_f1]) (i := 1) rfl hI (fun _ e l74 nl74 hI => by subst e; exact (((tree_Tree_Put_calls (HT.mono l74) kn21 y19 ([(⟨(l0.getD y17.toNat z38).f1, (l0.getD y17.toNat z38).f2, (l0.getD y17.toNat z38).f3, (l0.getD y17.toNat z38).f4, (l0.getD y17.toNat z38).f5⟩ : T36), (⟨(l0.getD y17.toNat z38).f1, (l0.getD y17.toNat z38).f2, (l0.getD y17.toNat z38).f3, (l0.getD y17.toNat z38).f4, (l0.getD y17.toNat z38).f5⟩ : T36)] : List T36) bR12 Ay19_f0 cy19_f0 Cy19_f0 (Hy19_f0.mono l74) Ay19_f1 cy19_f1 Cy19_f1 (Hy19_f1.mono l74) (some ⟨b64, 0, none⟩) 2 (Ho66.rdN l74 nl74) t70 ht71 hI)).mono fun _ _ hr => by obtain ⟨_, _, _, rfl, hd, hI⟩ := hr; obtain ⟨AR72p0_0, cR72p0_0, CR72p0_0, AR72p0_1, cR72p0_1, CR72p0_1, rfl, HR72p0_0, HR72p0_1, rfl, rfl⟩ := hd; exact ⟨_, _, _, rfl, ⟨[[(bR12, .cells #[mpv AR72p0_0, mpv AR72p0_1] 97 (0, 0))], CR72p0_0, CR72p0_1], ⟨AR72p0_0, cR72p0_0, CR72p0_0, AR72p0_1, cR72p0_1, CR72p0_1, rfl, (HR72p0_0.flat ()), (HR72p0_1.flat ()), rfl⟩, rfl, rfl⟩, hI⟩))).mono fun _ _ hr => by obtain ⟨_, _, _, rfl, ⟨_, hd, rfl, rfl⟩, hI⟩ := hr; obtain ⟨AR72p0_0, cR72p0_0, CR72p0_0, AR72p0_1, cR72p0_1, CR72p0_1, rfl, HR72p0_0, HR72p0_1, rfl⟩ := hd; exact ⟨_, _, _, rfl, ⟨AR72p0_0, cR72p0_0, CR72p0_0, AR72p0_1, cR72p0_1, CR72p0_1, rfl, HR72p0_0, HR72p0_1, rfl, rfl⟩, hI⟩)) ?_
                  rintro _ _ _ ⟨AR72p0_0, cR72p0_0, CR72p0_0, AR72p0_1, cR72p0_1, CR72p0_1, rfl, HR72p0_0, HR72p0_1, rfl, rfl⟩
                  refine ⟨_, _, Under.refl, (Under.mem (C := [(b24, .cells #[.bool ((l0.getD y17.toNat z38).f0), .int .i64 ((l0.getD y17.toNat z38).f1), .int .i64 ((l0.getD y17.toNat z38).f2), .int .i64 ((l0.getD y17.toNat z38).f3), .int .i64 ((l0.getD y17.toNat z38).f4), .string ((l0.getD y17.toNat z38).f5)] 38 (0, 0))]) (by repeat first | exact List.Mem.head _ | apply List.Mem.tail)), ?_⟩
                  refine WA.front (i := 6) rfl ?_
                  refine WA.front (i := 7) rfl ?_
                  rw [Option.bind_eq_some_iff] at h
                  obtain ⟨t75, ht76, h⟩ := h
                  refine WA.op (i := 13) (m := 1) (b' := 16383) (by kernel_rfl) hS (by kernel_rfl) (op := .call { callee := (.value (.func 18)), args := #[(.tmp 70), (.tmp 75)], argTypes := #[27, 28] }) (ty := 3) (d := some 76) (g := none) (by kernel_rfl) (by kernel_rfl) (by kernel_rfl) (Does.call (Φ := fun v' G' Γ' => ∃ (AR77p0 : Option Addr), ∃ (cR77p0 : Nat), ∃ (CR77p0 : Chunk), v' = .int .i64 t75.1 ∧ Ow k36 G AR77p0 cR77p0 t75.2.f0 CR77p0 ∧ G = G' ∧ [(b14, .cells #[.slice AR77p0 t75.2.f0.length cR77p0] 30 (0, 0))] :: CR77p0 :: [(bR12, .cells #[mpv AR72p0_0, mpv AR72p0_1] 97 (0, 0))] :: CR72p0_0 :: CR72p0_1 :: [(b67, .cells #[.int .i64 ((l0.getD y17.toNat z38).f1), .int .i64 ((l0.getD y17.toNat z38).f2), .int .i64 ((l0.getD y17.toNat z38).f3), .int .i64 ((l0.getD y17.toNat z38).f4), .string ((l0.getD y17.toNat z38).f5), .int .i64 ((l0.getD y17.toNat z38).f1), .int .i64 ((l0.getD y17.toNat z38).f2), .int .i64 ((l0.getD y17.toNat z38).f3), .int .i64 ((l0.getD y17.toNat z38).f4), .string ((l0.getD y17.toNat z38).f5)] 36 (0, 0))] :: [(b64, .cells #[.int .i64 ((l0.getD y17.toNat z38).f1), .int .i64 ((l0.getD y17.toNat z38).f2), .int .i64 ((l0.getD y17.toNat z38).f3), .int .i64 ((l0.getD y17.toNat z38).f4), .string ((l0.getD y17.toNat z38).f5), .int .i64 ((l0.getD y17.toNat z38).f1), .int .i64 ((l0.getD y17.toNat z38).f2), .int .i64 ((l0.getD y17.toNat z38).f3), .int .i64 ((l0.getD y17.toNat z38).f4), .string ((l0.getD y17.toNat z38).f5)] 36 (0, 0))] :: [(b24, .cells #[.bool ((l0.getD y17.toNat z38).f0), .int .i64 ((l0.getD y17.toNat z38).f1), .int .i64 ((l0.getD y17.toNat z38).f2), .int .i64 ((l0.getD y17.toNat z38).f3), .int .i64 ((l0.getD y17.toNat z38).f4), .string ((l0.getD y17.toNat z38).f5)] 38 (0, 0))] :: Γ = Γ') (f := 18) (args := [.pointer (some ⟨b14, 0, none⟩), .slice (some ⟨b67, 0, none⟩) ([(⟨(l0.getD y17.toNat z38).f1, (l0.getD y17.toNat z38).f2, (l0.getD y17.toNat z38).f3, (l0.getD y17.toNat z38).f4, (l0.getD y17.toNat z38).f5⟩ : T36), (⟨(l0.getD y17.toNat z38).f1, (l0.getD y17.toNat z38).f2, (l0.getD y17.toNat z38).f3, (l0.getD y17.toNat z38).f4, (l0.getD y17.toNat z38).f5⟩ : T36)] : List T36).length 2]) (by kernel_rfl) (fun W hI => (Calls.lendN (Φ := fun v' N => ∃ (AR77p0 : Option Addr), ∃ (cR77p0 : Nat), ∃ (CR77p0 : Chunk), v' = .int .i64 t75.1 ∧ Ow k36 G AR77p0 cR77p0 t75.2.f0 CR77p0 ∧ N = [[(b14, .cells #[.slice AR77p0 t75.2.f0.length cR77p0] 30 (0, 0))], CR77p0]) (H := [[(b14, .cells #[.slice Ay18_f0 y18.f0.length cy18_f0] 30 (0, 0))], Cy18_f0]) (i := 3) rfl hI (fun _ e l79 nl79 hI => by subst e; exact (((grapevineref12_Tree_Put_calls (HT.mono l79) kn21 y18 ([(⟨(l0.getD y17.toNat z38).f1, (l0.getD y17.toNat z38).f2, (l0.getD y17.toNat z38).f3, (l0.getD y17.toNat z38).f4, (l0.getD y17.toNat z38).f5⟩ : T36), (⟨(l0.getD y17.toNat z38).f1, (l0.getD y17.toNat z38).f2, (l0.getD y17.toNat z38).f3, (l0.getD y17.toNat z38).f4, (l0.getD y17.toNat z38).f5⟩ : T36)] : List T36) b14 Ay18_f0 cy18_f0 Cy18_f0 (Hy18_f0.mono l79) (some ⟨b67, 0, none⟩) 2 (Ho69.rdN l79 nl79) t75 ht76 hI)).mono fun _ _ hr => by obtain ⟨_, _, _, rfl, hd, hI⟩ := hr; obtain ⟨AR77p0, cR77p0, CR77p0, rfl, HR77p0, rfl, rfl⟩ := hd; exact ⟨_, _, _, rfl, ⟨[[(b14, .cells #[.slice AR77p0 t75.2.f0.length cR77p0] 30 (0, 0))], CR77p0], ⟨AR77p0, cR77p0, CR77p0, rfl, (HR77p0.flat (kFlat_flat _ _ _ _)), rfl⟩, rfl, rfl⟩, hI⟩))).mono fun _ _ hr => by obtain ⟨_, _, _, rfl, ⟨_, hd, rfl, rfl⟩, hI⟩ := hr; obtain ⟨AR77p0, cR77p0, CR77p0, rfl, HR77p0, rfl⟩ := hd; exact ⟨_, _, _, rfl, ⟨AR77p0, cR77p0, CR77p0, rfl, HR77p0, rfl, rfl⟩, hI⟩)) ?_
                  rintro _ _ _ ⟨AR77p0, cR77p0, CR77p0, rfl, HR77p0, rfl, rfl⟩
                  refine ⟨_, _, Under.refl, (Under.mem (C := [(b24, .cells #[.bool ((l0.getD y17.toNat z38).f0), .int .i64 ((l0.getD y17.toNat z38).f1), .int .i64 ((l0.getD y17.toNat z38).f2), .int .i64 ((l0.getD y17.toNat z38).f3), .int .i64 ((l0.getD y17.toNat z38).f4), .string ((l0.getD y17.toNat z38).f5)] 38 (0, 0))]) (by repeat first | exact List.Mem.head _ | apply List.Mem.tail)), ?_⟩
                  refine WA.pure [14] [0, 1, 2, 3, 9, 10, 11, 77] (m := 0) (b' := 32767) (L' := [(0, .slice Al0 l0.length cl0), (1, .int .i64 a1), (2, .int .i64 a2), (3, .int .i64 a3), (9, .pointer (some ⟨bR12, 0, none⟩)), (10, .pointer (some ⟨b14, 0, none⟩)), (11, .int .i64 y17), (77, .bool (t70.1 != t75.1))]) (by kernel_rfl) (NoPanic.then (NoPanic.then (NoPanic.block (NoPanic.then (NoPanic.then (NoPanic.block (NoPanic.then (NoPanic.then (NoPanic.body))))))))) (Under.mem (C := [(b24, .cells #[.bool ((l0.getD y17.toNat z38).f0), .int .i64 ((l0.getD y17.toNat z38).f1), .int .i64 ((l0.getD y17.toNat z38).f2), .int .i64 ((l0.getD y17.toNat z38).f3), .int .i64 ((l0.getD y17.toNat z38).f4), .string ((l0.getD y17.toNat z38).f5)] 38 (0, 0))]) (by repeat first | exact List.Mem.head _ | apply List.Mem.tail)) hS (by kernel_rfl) ?_
                  refine WA.done hS (by kernel_rfl) ?_
                  refine QP.pick [0, 1, 2, 3, 9, 10, 11, 77] ?_
                  refine QP.dropAt 7 ?_
                  refine QP.dropAt 6 ?_
                  refine QP.dropAt 5 ?_
                  refine QP.pick [0, 1, 2, 3, 9, 10, 11, 77] ?_
                  exact QP.meet ⟨_, Option.some.inj h, AR77p0, cR77p0, CR77p0, AR72p0_0, cR72p0_0, CR72p0_0, AR72p0_1, cR72p0_1, CR72p0_1, rfl, rfl, rfl, HR77p0, HR72p0_0, HR72p0_1⟩
              · refine WO.op (b' := 8095) (by kernel_rfl) (op := .buildSlice 28 2 #[(0, (.tmp 72)), (1, (.tmp 74))]) (ty := 28) (d := some 75) (g := none) (by kernel_rfl) (by kernel_rfl) (by kernel_rfl) (Does.new (o := .cells #[.int .i64 ((l0.getD y17.toNat z38).f1), .int .i64 ((l0.getD y17.toNat z38).f2), .int .i64 ((l0.getD y17.toNat z38).f3), .int .i64 ((l0.getD y17.toNat z38).f4), .string ((l0.getD y17.toNat z38).f5), .int .i64 ((l0.getD y17.toNat z38).f1), .int .i64 ((l0.getD y17.toNat z38).f2), .int .i64 ((l0.getD y17.toNat z38).f3), .int .i64 ((l0.getD y17.toNat z38).f4), .string ((l0.getD y17.toNat z38).f5)] 36 (0, 0)) (v := fun r => .slice (some ⟨r, 0, none⟩) 2 2) (fun r => by kernel_rfl)) ?_
                rintro _ _ _ ⟨b64, rfl, rfl, rfl⟩
                refine ⟨_, _, Under.refl, (Under.mem (C := [(b24, .cells #[.bool ((l0.getD y17.toNat z38).f0), .int .i64 ((l0.getD y17.toNat z38).f1), .int .i64 ((l0.getD y17.toNat z38).f2), .int .i64 ((l0.getD y17.toNat z38).f3), .int .i64 ((l0.getD y17.toNat z38).f4), .string ((l0.getD y17.toNat z38).f5)] 38 (0, 0))]) (by repeat first | exact List.Mem.head _ | apply List.Mem.tail)), ?_⟩
                have Ho66 : Ow k36 G (some ⟨b64, 0, none⟩) 2 ([(⟨(l0.getD y17.toNat z38).f1, (l0.getD y17.toNat z38).f2, (l0.getD y17.toNat z38).f3, (l0.getD y17.toNat z38).f4, (l0.getD y17.toNat z38).f5⟩ : T36), (⟨(l0.getD y17.toNat z38).f1, (l0.getD y17.toNat z38).f2, (l0.getD y17.toNat z38).f3, (l0.getD y17.toNat z38).f4, (l0.getD y17.toNat z38).f5⟩ : T36)] : List T36) [(b64, .cells #[.int .i64 ((l0.getD y17.toNat z38).f1), .int .i64 ((l0.getD y17.toNat z38).f2), .int .i64 ((l0.getD y17.toNat z38).f3), .int .i64 ((l0.getD y17.toNat z38).f4), .string ((l0.getD y17.toNat z38).f5), .int .i64 ((l0.getD y17.toNat z38).f1), .int .i64 ((l0.getD y17.toNat z38).f2), .int .i64 ((l0.getD y17.toNat z38).f3), .int .i64 ((l0.getD y17.toNat z38).f4), .string ((l0.getD y17.toNat z38).f5)] 36 (0, 0))] := Ow.lit (kd := k36) (G := G) (b := b64) (T := 36) (xs := ([(⟨(l0.getD y17.toNat z38).f1, (l0.getD y17.toNat z38).f2, (l0.getD y17.toNat z38).f3, (l0.getD y17.toNat z38).f4, (l0.getD y17.toNat z38).f5⟩ : T36), (⟨(l0.getD y17.toNat z38).f1, (l0.getD y17.toNat z38).f2, (l0.getD y17.toNat z38).f3, (l0.getD y17.toNat z38).f4, (l0.getD y17.toNat z38).f5⟩ : T36)] : List T36)) (cs := [.int .i64 ((l0.getD y17.toNat z38).f1), .int .i64 ((l0.getD y17.toNat z38).f2), .int .i64 ((l0.getD y17.toNat z38).f3), .int .i64 ((l0.getD y17.toNat z38).f4), .string ((l0.getD y17.toNat z38).f5), .int .i64 ((l0.getD y17.toNat z38).f1), .int .i64 ((l0.getD y17.toNat z38).f2), .int .i64 ((l0.getD y17.toNat z38).f3), .int .i64 ((l0.getD y17.toNat z38).f4), .string ((l0.getD y17.toNat z38).f5)]) (.cons (x := (⟨(l0.getD y17.toNat z38).f1, (l0.getD y17.toNat z38).f2, (l0.getD y17.toNat z38).f3, (l0.getD y17.toNat z38).f4, (l0.getD y17.toNat z38).f5⟩ : T36)) (cs := [.int .i64 ((l0.getD y17.toNat z38).f1), .int .i64 ((l0.getD y17.toNat z38).f2), .int .i64 ((l0.getD y17.toNat z38).f3), .int .i64 ((l0.getD y17.toNat z38).f4), .string ((l0.getD y17.toNat z38).f5)]) (by exact rfl) (.cons (x := (⟨(l0.getD y17.toNat z38).f1, (l0.getD y17.toNat z38).f2, (l0.getD y17.toNat z38).f3, (l0.getD y17.toNat z38).f4, (l0.getD y17.toNat z38).f5⟩ : T36)) (cs := [.int .i64 ((l0.getD y17.toNat z38).f1), .int .i64 ((l0.getD y17.toNat z38).f2), .int .i64 ((l0.getD y17.toNat z38).f3), .int .i64 ((l0.getD y17.toNat z38).f4), .string ((l0.getD y17.toNat z38).f5)]) (by exact rfl) .nil))
                refine WA.op (i := 5) (m := 3) (b' := 8127) (by kernel_rfl) hS (by kernel_rfl) (op := .buildSlice 28 2 #[(0, (.tmp 65)), (1, (.tmp 67))]) (ty := 28) (d := some 68) (g := none) (by kernel_rfl) (by kernel_rfl) (by kernel_rfl) (Does.new (o := .cells #[.int .i64 ((l0.getD y17.toNat z38).f1), .int .i64 ((l0.getD y17.toNat z38).f2), .int .i64 ((l0.getD y17.toNat z38).f3), .int .i64 ((l0.getD y17.toNat z38).f4), .string ((l0.getD y17.toNat z38).f5), .int .i64 ((l0.getD y17.toNat z38).f1), .int .i64 ((l0.getD y17.toNat z38).f2), .int .i64 ((l0.getD y17.toNat z38).f3), .int .i64 ((l0.getD y17.toNat z38).f4), .string ((l0.getD y17.toNat z38).f5)] 36 (0, 0)) (v := fun r => .slice (some ⟨r, 0, none⟩) 2 2) (fun r => by kernel_rfl)) ?_
                rintro _ _ _ ⟨b67, rfl, rfl, rfl⟩
                refine ⟨_, _, Under.refl, (Under.mem (C := [(b24, .cells #[.bool ((l0.getD y17.toNat z38).f0), .int .i64 ((l0.getD y17.toNat z38).f1), .int .i64 ((l0.getD y17.toNat z38).f2), .int .i64 ((l0.getD y17.toNat z38).f3), .int .i64 ((l0.getD y17.toNat z38).f4), .string ((l0.getD y17.toNat z38).f5)] 38 (0, 0))]) (by repeat first | exact List.Mem.head _ | apply List.Mem.tail)), ?_⟩
                have Ho69 : Ow k36 G (some ⟨b67, 0, none⟩) 2 ([(⟨(l0.getD y17.toNat z38).f1, (l0.getD y17.toNat z38).f2, (l0.getD y17.toNat z38).f3, (l0.getD y17.toNat z38).f4, (l0.getD y17.toNat z38).f5⟩ : T36), (⟨(l0.getD y17.toNat z38).f1, (l0.getD y17.toNat z38).f2, (l0.getD y17.toNat z38).f3, (l0.getD y17.toNat z38).f4, (l0.getD y17.toNat z38).f5⟩ : T36)] : List T36) [(b67, .cells #[.int .i64 ((l0.getD y17.toNat z38).f1), .int .i64 ((l0.getD y17.toNat z38).f2), .int .i64 ((l0.getD y17.toNat z38).f3), .int .i64 ((l0.getD y17.toNat z38).f4), .string ((l0.getD y17.toNat z38).f5), .int .i64 ((l0.getD y17.toNat z38).f1), .int .i64 ((l0.getD y17.toNat z38).f2), .int .i64 ((l0.getD y17.toNat z38).f3), .int .i64 ((l0.getD y17.toNat z38).f4), .string ((l0.getD y17.toNat z38).f5)] 36 (0, 0))] := Ow.lit (kd := k36) (G := G) (b := b67) (T := 36) (xs := ([(⟨(l0.getD y17.toNat z38).f1, (l0.getD y17.toNat z38).f2, (l0.getD y17.toNat z38).f3, (l0.getD y17.toNat z38).f4, (l0.getD y17.toNat z38).f5⟩ : T36), (⟨(l0.getD y17.toNat z38).f1, (l0.getD y17.toNat z38).f2, (l0.getD y17.toNat z38).f3, (l0.getD y17.toNat z38).f4, (l0.getD y17.toNat z38).f5⟩ : T36)] : List T36)) (cs := [.int .i64 ((l0.getD y17.toNat z38).f1), .int .i64 ((l0.getD y17.toNat z38).f2), .int .i64 ((l0.getD y17.toNat z38).f3), .int .i64 ((l0.getD y17.toNat z38).f4), .string ((l0.getD y17.toNat z38).f5), .int .i64 ((l0.getD y17.toNat z38).f1), .int .i64 ((l0.getD y17.toNat z38).f2), .int .i64 ((l0.getD y17.toNat z38).f3), .int .i64 ((l0.getD y17.toNat z38).f4), .string ((l0.getD y17.toNat z38).f5)]) (.cons (x := (⟨(l0.getD y17.toNat z38).f1, (l0.getD y17.toNat z38).f2, (l0.getD y17.toNat z38).f3, (l0.getD y17.toNat z38).f4, (l0.getD y17.toNat z38).f5⟩ : T36)) (cs := [.int .i64 ((l0.getD y17.toNat z38).f1), .int .i64 ((l0.getD y17.toNat z38).f2), .int .i64 ((l0.getD y17.toNat z38).f3), .int .i64 ((l0.getD y17.toNat z38).f4), .string ((l0.getD y17.toNat z38).f5)]) (by exact rfl) (.cons (x := (⟨(l0.getD y17.toNat z38).f1, (l0.getD y17.toNat z38).f2, (l0.getD y17.toNat z38).f3, (l0.getD y17.toNat z38).f4, (l0.getD y17.toNat z38).f5⟩ : T36)) (cs := [.int .i64 ((l0.getD y17.toNat z38).f1), .int .i64 ((l0.getD y17.toNat z38).f2), .int .i64 ((l0.getD y17.toNat z38).f3), .int .i64 ((l0.getD y17.toNat z38).f4), .string ((l0.getD y17.toNat z38).f5)]) (by exact rfl) .nil))
                refine WA.front (i := 7) rfl ?_
                refine WA.front (i := 7) rfl ?_
                refine WA.front (i := 7) rfl ?_
                rw [Option.bind_eq_some_iff] at h
                obtain ⟨t70, ht71, h⟩ := h
                refine WA.op (i := 6) (m := 2) (b' := 8191) (by kernel_rfl) hS (by kernel_rfl) (op := .call { callee := (.value (.func 17)), args := #[(.tmp 63), (.tmp 68)], argTypes := #[25, 28] }) (ty := 3) (d := some 69) (g := none) (by kernel_rfl) (by kernel_rfl) (by kernel_rfl) (Does.call (Φ := fun v' G' Γ' => ∃ (AR72p0_0 : Option Addr), ∃ (cR72p0_0 : Nat), ∃ (CR72p0_0 : Chunk), ∃ (AR72p0_1 : Option Addr), ∃ (cR72p0_1 : Nat), ∃ (CR72p0_1 : Chunk), v' = .int .i64 t70.1 ∧ MpO m94 G AR72p0_0 cR72p0_0 t70.2.f0 CR72p0_0 ∧ MpO m95 G AR72p0_1 cR72p0_1 t70.2.f1 CR72p0_1 ∧ G = G' ∧ [(bR12, .cells #[mpv AR72p0_0, mpv AR72p0_1] 97 (0, 0))] :: CR72p0_0 :: CR72p0_1 :: [(b67, .cells #[.int .i64 ((l0.getD y17.toNat z38).f1), .int .i64 ((l0.getD y17.toNat z38).f2), .int .i64 ((l0.getD y17.toNat z38).f3), .int .i64 ((l0.getD y17.toNat z38).f4), .string ((l0.getD y17.toNat z38).f5), .int .i64 ((l0.getD y17.toNat z38).f1), .int .i64 ((l0.getD y17.toNat z38).f2), .int .i64 ((l0.getD y17.toNat z38).f3), .int .i64 ((l0.getD y17.toNat z38).f4), .string ((l0.getD y17.toNat z38).f5)] 36 (0, 0))] :: [(b64, .cells #[.int .i64 ((l0.getD y17.toNat z38).f1), .int .i64 ((l0.getD y17.toNat z38).f2), .int .i64 ((l0.getD y17.toNat z38).f3), .int .i64 ((l0.getD y17.toNat z38).f4), .string ((l0.getD y17.toNat z38).f5), .int .i64 ((l0.getD y17.toNat z38).f1), .int .i64 ((l0.getD y17.toNat z38).f2), .int .i64 ((l0.getD y17.toNat z38).f3), .int .i64 ((l0.getD y17.toNat z38).f4), .string ((l0.getD y17.toNat z38).f5)] 36 (0, 0))] :: [(b24, .cells #[.bool ((l0.getD y17.toNat z38).f0), .int .i64 ((l0.getD y17.toNat z38).f1), .int .i64 ((l0.getD y17.toNat z38).f2), .int .i64 ((l0.getD y17.toNat z38).f3), .int .i64 ((l0.getD y17.toNat z38).f4), .string ((l0.getD y17.toNat z38).f5)] 38 (0, 0))] :: Cy18_f0 :: [(b14, .cells #[.slice Ay18_f0 y18.f0.length cy18_f0] 30 (0, 0))] :: Γ = Γ') (f := 17) (args := [.pointer (some ⟨bR12, 0, none⟩), .slice (some ⟨b67, 0, none⟩) ([(⟨(l0.getD y17.toNat z38).f1, (l0.getD y17.toNat z38).f2, (l0.getD y17.toNat z38).f3, (l0.getD y17.toNat z38).f4, (l0.getD y17.toNat z38).f5⟩ : T36), (⟨(l0.getD y17.toNat z38).f1, (l0.getD y17.toNat z38).f2, (l0.getD y17.toNat z38).f3, (l0.getD y17.toNat z38).f4, (l0.getD y17.toNat z38).f5⟩ : T36)] : List T36).length 2]) (by kernel_rfl) (fun W hI => (Calls.lendN (Φ := fun v' N => ∃ (AR72p0_0 : Option Addr), ∃ (cR72p0_0 : Nat), ∃ (CR72p0_0 : Chunk), ∃ (AR72p0_1 : Option Addr), ∃ (cR72p0_1 : Nat), ∃ (CR72p0_1 : Chunk), v' = .int .i64 t70.1 ∧ MpO m94 G AR72p0_0 cR72p0_0 t70.2.f0 CR72p0_0 ∧ MpO m95 G AR72p0_1 cR72p0_1 t70.2.f1 CR72p0_1 ∧ N = [[(bR12, .cells #[mpv AR72p0_0, mpv AR72p0_1] 97 (0, 0))], CR72p0_0, CR72p0_1]) (H := [[(bR12, .cells #[mpv Ay19_f0, mpv Ay19_f1] 97 (0, 0))], Cy19_f0, Cy19_f1]) (i := 0) rfl hI (fun _ e l74 nl74 hI => by subst e; exact (((tree_Tree_Put_calls (HT.mono l74) kn21 y19 ([(⟨(l0.getD y17.toNat z38).f1, (l0.getD y17.toNat z38).f2, (l0.getD y17.toNat z38).f3, (l0.getD y17.toNat z38).f4, (l0.getD y17.toNat z38).f5⟩ : T36), (⟨(l0.getD y17.toNat z38).f1, (l0.getD y17.toNat z38).f2, (l0.getD y17.toNat z38).f3, (l0.getD y17.toNat z38).f4, (l0.getD y17.toNat z38).f5⟩ : T36)] : List T36) bR12 Ay19_f0 cy19_f0 Cy19_f0 (Hy19_f0.mono l74) Ay19_f1 cy19_f1 Cy19_f1 (Hy19_f1.mono l74) (some ⟨b67, 0, none⟩) 2 (Ho69.rdN l74 nl74) t70 ht71 hI)).mono fun _ _ hr => by obtain ⟨_, _, _, rfl, hd, hI⟩ := hr; obtain ⟨AR72p0_0, cR72p0_0, CR72p0_0, AR72p0_1, cR72p0_1, CR72p0_1, rfl, HR72p0_0, HR72p0_1, rfl, rfl⟩ := hd; exact ⟨_, _, _, rfl, ⟨[[(bR12, .cells #[mpv AR72p0_0, mpv AR72p0_1] 97 (0, 0))], CR72p0_0, CR72p0_1], ⟨AR72p0_0, cR72p0_0, CR72p0_0, AR72p0_1, cR72p0_1, CR72p0_1, rfl, (HR72p0_0.flat ()), (HR72p0_1.flat ()), rfl⟩, rfl, rfl⟩, hI⟩))).mono fun _ _ hr => by obtain ⟨_, _, _, rfl, ⟨_, hd, rfl, rfl⟩, hI⟩ := hr; obtain ⟨AR72p0_0, cR72p0_0, CR72p0_0, AR72p0_1, cR72p0_1, CR72p0_1, rfl, HR72p0_0, HR72p0_1, rfl⟩ := hd; exact ⟨_, _, _, rfl, ⟨AR72p0_0, cR72p0_0, CR72p0_0, AR72p0_1, cR72p0_1, CR72p0_1, rfl, HR72p0_0, HR72p0_1, rfl, rfl⟩, hI⟩)) ?_
                rintro _ _ _ ⟨AR72p0_0, cR72p0_0, CR72p0_0, AR72p0_1, cR72p0_1, CR72p0_1, rfl, HR72p0_0, HR72p0_1, rfl, rfl⟩
                refine ⟨_, _, Under.refl, (Under.mem (C := [(b24, .cells #[.bool ((l0.getD y17.toNat z38).f0), .int .i64 ((l0.getD y17.toNat z38).f1), .int .i64 ((l0.getD y17.toNat z38).f2), .int .i64 ((l0.getD y17.toNat z38).f3), .int .i64 ((l0.getD y17.toNat z38).f4), .string ((l0.getD y17.toNat z38).f5)] 38 (0, 0))]) (by repeat first | exact List.Mem.head _ | apply List.Mem.tail)), ?_⟩
                refine WA.front (i := 6) rfl ?_
                refine WA.front (i := 7) rfl ?_
                rw [Option.bind_eq_some_iff] at h
                obtain ⟨t75, ht76, h⟩ := h
                refine WA.op (i := 13) (m := 1) (b' := 16383) (by kernel_rfl) hS (by kernel_rfl) (op := .call { callee := (.value (.func 18)), args := #[(.tmp 70), (.tmp 75)], argTypes := #[27, 28] }) (ty := 3) (d := some 76) (g := none) (by kernel_rfl) (by kernel_rfl) (by kernel_rfl) (Does.call (Φ := fun v' G' Γ' => ∃ (AR77p0 : Option Addr), ∃ (cR77p0 : Nat), ∃ (CR77p0 : Chunk), v' = .int .i64 t75.1 ∧ Ow k36 G AR77p0 cR77p0 t75.2.f0 CR77p0 ∧ G = G' ∧ [(b14, .cells #[.slice AR77p0 t75.2.f0.length cR77p0] 30 (0, 0))] :: CR77p0 :: [(bR12, .cells #[mpv AR72p0_0, mpv AR72p0_1] 97 (0, 0))] :: CR72p0_0 :: CR72p0_1 :: [(b67, .cells #[.int .i64 ((l0.getD y17.toNat z38).f1), .int .i64 ((l0.getD y17.toNat z38).f2), .int .i64 ((l0.getD y17.toNat z38).f3), .int .i64 ((l0.getD y17.toNat z38).f4), .string ((l0.getD y17.toNat z38).f5), .int .i64 ((l0.getD y17.toNat z38).f1), .int .i64 ((l0.getD y17.toNat z38).f2), .int .i64 ((l0.getD y17.toNat z38).f3), .int .i64 ((l0.getD y17.toNat z38).f4), .string ((l0.getD y17.toNat z38).f5)] 36 (0, 0))] :: [(b64, .cells #[.int .i64 ((l0.getD y17.toNat z38).f1), .int .i64 ((l0.getD y17.toNat z38).f2), .int .i64 ((l0.getD y17.toNat z38).f3), .int .i64 ((l0.getD y17.toNat z38).f4), .string ((l0.getD y17.toNat z38).f5), .int .i64 ((l0.getD y17.toNat z38).f1), .int .i64 ((l0.getD y17.toNat z38).f2), .int .i64 ((l0.getD y17.toNat z38).f3), .int .i64 ((l0.getD y17.toNat z38).f4), .string ((l0.getD y17.toNat z38).f5)] 36 (0, 0))] :: [(b24, .cells #[.bool ((l0.getD y17.toNat z38).f0), .int .i64 ((l0.getD y17.toNat z38).f1), .int .i64 ((l0.getD y17.toNat z38).f2), .int .i64 ((l0.getD y17.toNat z38).f3), .int .i64 ((l0.getD y17.toNat z38).f4), .string ((l0.getD y17.toNat z38).f5)] 38 (0, 0))] :: Γ = Γ') (f := 18) (args := [.pointer (some ⟨b14, 0, none⟩), .slice (some ⟨b64, 0, none⟩) ([(⟨(l0.getD y17.toNat z38).f1, (l0.getD y17.toNat z38).f2, (l0.getD y17.toNat z38).f3, (l0.getD y17.toNat z38).f4, (l0.getD y17.toNat z38).f5⟩ : T36), (⟨(l0.getD y17.toNat z38).f1, (l0.getD y17.toNat z38).f2, (l0.getD y17.toNat z38).f3, (l0.getD y17.toNat z38).f4, (l0.getD y17.toNat z38).f5⟩ : T36)] : List T36).length 2]) (by kernel_rfl) (fun W hI => (Calls.lendN (Φ := fun v' N => ∃ (AR77p0 : Option Addr), ∃ (cR77p0 : Nat), ∃ (CR77p0 : Chunk), v' = .int .i64 t75.1 ∧ Ow k36 G AR77p0 cR77p0 t75.2.f0 CR77p0 ∧ N = [[(b14, .cells #[.slice AR77p0 t75.2.f0.length cR77p0] 30 (0, 0))], CR77p0]) (H := [[(b14, .cells #[.slice Ay18_f0 y18.f0.length cy18_f0] 30 (0, 0))], Cy18_f0]) (i := 4) rfl hI (fun _ e l79 nl79 hI => by subst e; exact (((grapevineref12_Tree_Put_calls (HT.mono l79) kn21 y18 ([(⟨(l0.getD y17.toNat z38).f1, (l0.getD y17.toNat z38).f2, (l0.getD y17.toNat z38).f3, (l0.getD y17.toNat z38).f4, (l0.getD y17.toNat z38).f5⟩ : T36), (⟨(l0.getD y17.toNat z38).f1, (l0.getD y17.toNat z38).f2, (l0.getD y17.toNat z38).f3, (l0.getD y17.toNat z38).f4, (l0.getD y17.toNat z38).f5⟩ : T36)] : List T36) b14 Ay18_f0 cy18_f0 Cy18_f0 (Hy18_f0.mono l79) (some ⟨b64, 0, none⟩) 2 (Ho66.rdN l79 nl79) t75 ht76 hI)).mono fun _ _ hr => by obtain ⟨_, _, _, rfl, hd, hI⟩ := hr; obtain ⟨AR77p0, cR77p0, CR77p0, rfl, HR77p0, rfl, rfl⟩ := hd; exact ⟨_, _, _, rfl, ⟨[[(b14, .cells #[.slice AR77p0 t75.2.f0.length cR77p0] 30 (0, 0))], CR77p0], ⟨AR77p0, cR77p0, CR77p0, rfl, (HR77p0.flat (kFlat_flat _ _ _ _)), rfl⟩, rfl, rfl⟩, hI⟩))).mono fun _ _ hr => by obtain ⟨_, _, _, rfl, ⟨_, hd, rfl, rfl⟩, hI⟩ := hr; obtain ⟨AR77p0, cR77p0, CR77p0, rfl, HR77p0, rfl⟩ := hd; exact ⟨_, _, _, rfl, ⟨AR77p0, cR77p0, CR77p0, rfl, HR77p0, rfl, rfl⟩, hI⟩)) ?_
                rintro _ _ _ ⟨AR77p0, cR77p0, CR77p0, rfl, HR77p0, rfl, rfl⟩
                refine ⟨_, _, Under.refl, (Under.mem (C := [(b24, .cells #[.bool ((l0.getD y17.toNat z38).f0), .int .i64 ((l0.getD y17.toNat z38).f1), .int .i64 ((l0.getD y17.toNat z38).f2), .int .i64 ((l0.getD y17.toNat z38).f3), .int .i64 ((l0.getD y17.toNat z38).f4), .string ((l0.getD y17.toNat z38).f5)] 38 (0, 0))]) (by repeat first | exact List.Mem.head _ | apply List.Mem.tail)), ?_⟩
                refine WA.pure [14] [0, 1, 2, 3, 9, 10, 11, 77] (m := 0) (b' := 32767) (L' := [(0, .slice Al0 l0.length cl0), (1, .int .i64 a1), (2, .int .i64 a2), (3, .int .i64 a3), (9, .pointer (some ⟨bR12, 0, none⟩)), (10, .pointer (some ⟨b14, 0, none⟩)), (11, .int .i64 y17), (77, .bool (t70.1 != t75.1))]) (by kernel_rfl) (NoPanic.then (NoPanic.then (NoPanic.block (NoPanic.then (NoPanic.then (NoPanic.block (NoPanic.then (NoPanic.then (NoPanic.body))))))))) (Under.mem (C := [(b24, .cells #[.bool ((l0.getD y17.toNat z38).f0), .int .i64 ((l0.getD y17.toNat z38).f1), .int .i64 ((l0.getD y17.toNat z38).f2), .int .i64 ((l0.getD y17.toNat z38).f3), .int .i64 ((l0.getD y17.toNat z38).f4), .string ((l0.getD y17.toNat z38).f5)] 38 (0, 0))]) (by repeat first | exact List.Mem.head _ | apply List.Mem.tail)) hS (by kernel_rfl) ?_
                refine WA.done hS (by kernel_rfl) ?_
                refine QP.pick [0, 1, 2, 3, 9, 10, 11, 77] ?_
                refine QP.dropAt 7 ?_
                refine QP.dropAt 6 ?_
                refine QP.dropAt 5 ?_
                refine QP.pick [0, 1, 2, 3, 9, 10, 11, 77] ?_
                exact QP.meet ⟨_, Option.some.inj h, AR77p0, cR77p0, CR77p0, AR72p0_0, cR72p0_0, CR72p0_0, AR72p0_1, cR72p0_1, CR72p0_1, rfl, rfl, rfl, HR77p0, HR72p0_0, HR72p0_1⟩
            · rintro _ _ _ ⟨s62, rfl, As62_2_1_f0, cs62_2_1_f0, Cs62_2_1_f0, As62_2_2_f0, cs62_2_2_f0, Cs62_2_2_f0, As62_2_2_f1, cs62_2_2_f1, Cs62_2_2_f1, rfl, rfl, rfl, Hs62_2_1_f0, Hs62_2_2_f0, Hs62_2_2_f1⟩
              clear h
              replace h := hk63
              refine WP.cond (b := s62.1) (by kernel_rfl) (fun hc => ?_) (fun hc => ?_)
              · replace hc := hc
                rw [if_pos hc] at h
                have hc80 := hc
                clear hc
                refine WP.seqP [8] (L' := [(8, .bool false)]) (by kernel_rfl) ?_
                refine WP.dropAt 4 ?_
                refine WP.dropAt 3 ?_
                refine WP.dropAt 2 ?_
                refine WP.dropAt 1 ?_
                refine WP.dropAt 0 ?_
                refine WP.ret ?_
                refine QP.thenR ?_
                refine QP.blockR ?_
                refine QP.thenR ?_
                refine QP.thenR ?_
                refine QP.blockR ?_
                refine QP.thenR ?_
                refine QP.thenR ?_
                obtain rfl := Option.some.inj h
                obtain rfl := Option.some.inj (show some _ = some _ from hk16)
                exact QP.returned [8] [.bool false] _ (by kernel_rfl) (by kernel_rfl) (by kernel_rfl) (fun W hI => ⟨_, _, _, rfl, ⟨rfl, rfl, rfl⟩, hI⟩)
              · replace hc := (Bool.eq_false_iff.1 hc)
                rw [if_neg hc] at h
                have hc80 := hc
                clear hc
                refine WP.skip ?_
                refine QP.next ?_
                refine WP.pick [0, 1, 2, 3, 9, 10, 11] ?_
                refine WP.seqR ?_
                refine WL.pure 0 4 [0, 1, 2, 3, 9, 10, 11, 79, 80, 81, 82] (L' := [(0, .slice Al0 l0.length cl0), (1, .int .i64 a1), (2, .int .i64 a2), (3, .int .i64 a3), (9, .pointer (some ⟨bR12, 0, none⟩)), (10, .pointer (some ⟨b14, 0, none⟩)), (11, .int .i64 y17), (79, .pointer (some ⟨bR12, 0, none⟩)), (80, .int .i64 a1), (81, .int .i64 a2), (82, .int .i64 a3)]) (by kernel_rfl) (by decide) ?_
                refine WL.front (i := 4) rfl ?_
                refine WL.front (i := 4) rfl ?_
                refine WL.front (i := 4) rfl ?_
                rw [Option.bind_eq_some_iff] at h
                obtain ⟨t81, ht82, h⟩ := h
                refine WL.op (op := .call { callee := (.value (.func 19)), args := #[(.tmp 79), (.tmp 80), (.tmp 81), (.tmp 82)], argTypes := #[25, 3, 3, 3] }) (ty := 45) (d := some 83) (g := none) (by kernel_rfl) (by kernel_rfl) (by kernel_rfl) (Does.call (f := 19) (args := [.pointer (some ⟨bR12, 0, none⟩), .int .i64 a1, .int .i64 a2, .int .i64 a3]) (by kernel_rfl) (fun W hI => (tree_Tree_Sum_calls kn21 s62.2.2 a1 a2 a3 bR12 As62_2_2_f0 cs62_2_2_f0 Cs62_2_2_f0 Hs62_2_2_f0 As62_2_2_f1 cs62_2_2_f1 Cs62_2_2_f1 Hs62_2_2_f1 t81 ht82 hI))) ?_
                rintro _ _ _ ⟨rfl, rfl, rfl⟩
                refine WL.restQ 5 [0, 1, 2, 3, 9, 10, 11, 13, 14] (L' := [(0, .slice Al0 l0.length cl0), (1, .int .i64 a1), (2, .int .i64 a2), (3, .int .i64 a3), (9, .pointer (some ⟨bR12, 0, none⟩)), (10, .pointer (some ⟨b14, 0, none⟩)), (11, .int .i64 y17), (13, .int .u64 t81.1), (14, .bool t81.2)]) (by kernel_rfl) ?_
                refine WP.seqR ?_
                refine WL.pure 0 4 [0, 1, 2, 3, 9, 10, 11, 13, 14, 87, 88, 89, 90] (L' := [(0, .slice Al0 l0.length cl0), (1, .int .i64 a1), (2, .int .i64 a2), (3, .int .i64 a3), (9, .pointer (some ⟨bR12, 0, none⟩)), (10, .pointer (some ⟨b14, 0, none⟩)), (11, .int .i64 y17), (13, .int .u64 t81.1), (14, .bool t81.2), (87, .pointer (some ⟨b14, 0, none⟩)), (88, .int .i64 a1), (89, .int .i64 a2), (90, .int .i64 a3)]) (by kernel_rfl) (by decide) ?_
                refine WL.front (i := 4) rfl ?_
                refine WL.front (i := 4) rfl ?_
                rw [Option.bind_eq_some_iff] at h
                obtain ⟨t85, ht86, h⟩ := h
                refine WL.op (op := .call { callee := (.value (.func 20)), args := #[(.tmp 87), (.tmp 88), (.tmp 89), (.tmp 90)], argTypes := #[27, 3, 3, 3] }) (ty := 45) (d := some 91) (g := none) (by kernel_rfl) (by kernel_rfl) (by kernel_rfl) (Does.call (f := 20) (args := [.pointer (some ⟨b14, 0, none⟩), .int .i64 a1, .int .i64 a2, .int .i64 a3]) (by kernel_rfl) (fun W hI => (grapevineref12_Tree_Sum_calls HT kn21 s62.2.1 a1 a2 a3 b14 As62_2_1_f0 cs62_2_1_f0 Cs62_2_1_f0 Hs62_2_1_f0 t85 ht86 hI))) ?_
                rintro _ _ _ ⟨rfl, rfl, rfl⟩
                refine WL.restQ 5 [0, 1, 2, 3, 9, 10, 11, 13, 14, 15, 16] (L' := [(0, .slice Al0 l0.length cl0), (1, .int .i64 a1), (2, .int .i64 a2), (3, .int .i64 a3), (9, .pointer (some ⟨bR12, 0, none⟩)), (10, .pointer (some ⟨b14, 0, none⟩)), (11, .int .i64 y17), (13, .int .u64 t81.1), (14, .bool t81.2), (15, .int .u64 t85.1), (16, .bool t85.2)]) (by kernel_rfl) ?_
                rw [Option.bind_eq_some_iff] at h
                obtain ⟨os89, h, hk90⟩ := h
                refine WP.cut (fun L' G' Γ' => ∃ s89 : Bool, s89 = os89 ∧ L' = [(0, .slice Al0 l0.length cl0), (1, .int .i64 a1), (2, .int .i64 a2), (3, .int .i64 a3), (9, .pointer (some ⟨bR12, 0, none⟩)), (10, .pointer (some ⟨b14, 0, none⟩)), (11, .int .i64 y17), (111, .bool s89)] ∧ G = G' ∧ [(b14, .cells #[.slice As62_2_1_f0 s62.2.1.f0.length cs62_2_1_f0] 30 (0, 0))] :: Cs62_2_1_f0 :: [(bR12, .cells #[mpv As62_2_2_f0, mpv As62_2_2_f1] 97 (0, 0))] :: Cs62_2_2_f0 :: Cs62_2_2_f1 :: Γ = Γ') ?_ ?_
                · clear hk90
                  skip
                  refine WP.any (N := 18) (S := [⟨some 94, [13], []⟩, ⟨some 95, [15], []⟩, ⟨some 96, [94, 95], [0, 1]⟩, ⟨some 97, [96], [2]⟩, ⟨some 98, [14, 97], [3]⟩, ⟨some 99, [16, 97], [3]⟩, ⟨some 100, [97, 98, 99], [3, 4, 5]⟩, ⟨some 101, [97, 100], [3, 6]⟩, ⟨some 102, [101], [3, 7]⟩, ⟨some 103, [9, 102], [8]⟩, ⟨some 104, [102, 103], [8, 9]⟩, ⟨some 105, [10, 102], [8]⟩, ⟨some 106, [102, 105], [8, 11]⟩, ⟨some 107, [102, 106], [8, 12]⟩, ⟨some 108, [102, 107], [8, 13]⟩, ⟨some 109, [102, 108], [8, 14]⟩, ⟨some 110, [102, 104, 109], [8, 10, 15]⟩, ⟨some 111, [102, 110], [8, 16]⟩]) (kw := 18) (G0 := G) (Γ0 := [(b14, .cells #[.slice As62_2_1_f0 s62.2.1.f0.length cs62_2_1_f0] 30 (0, 0))] :: Cs62_2_1_f0 :: [(bR12, .cells #[mpv As62_2_2_f0, mpv As62_2_2_f1] 97 (0, 0))] :: Cs62_2_2_f0 :: Cs62_2_2_f1 :: Γ) mo (by kernel_rfl) (fun hS => ?_)
                  refine WA.pure [0, 1, 2, 3] [0, 1, 2, 3, 9, 10, 11, 14, 16, 97] (m := 14) (b' := 15) (L' := [(0, .slice Al0 l0.length cl0), (1, .int .i64 a1), (2, .int .i64 a2), (3, .int .i64 a3), (9, .pointer (some ⟨bR12, 0, none⟩)), (10, .pointer (some ⟨b14, 0, none⟩)), (11, .int .i64 y17), (14, .bool t81.2), (16, .bool t85.2), (97, .bool (t81.1 != t85.1))]) (by kernel_rfl) (NoPanic.then (NoPanic.block (NoPanic.then (NoPanic.then (NoPanic.block (NoPanic.then (NoPanic.then (NoPanic.body)))))))) Under.refl hS (by kernel_rfl) ?_
                  refine WA.split 97 (b := (t81.1 != t85.1)) (by kernel_rfl) (fun hc => ?_) (fun hc => ?_)
                  · replace hc := (bne_iff_ne.1 hc)
                    rw [if_pos hc] at h
                    have hc91 := hc
                    clear hc
                    refine WA.pure [4, 5, 6, 7, 8, 9, 10, 11, 12, 13, 14, 15, 16, 17] [0, 1, 2, 3, 9, 10, 11, 111] (m := 0) (b' := 262143) (L' := [(0, .slice Al0 l0.length cl0), (1, .int .i64 a1), (2, .int .i64 a2), (3, .int .i64 a3), (9, .pointer (some ⟨bR12, 0, none⟩)), (10, .pointer (some ⟨b14, 0, none⟩)), (11, .int .i64 y17), (111, .bool true)]) (by kernel_rfl) (NoPanic.then (NoPanic.block (NoPanic.then (NoPanic.then (NoPanic.block (NoPanic.then (NoPanic.then (NoPanic.body)))))))) Under.refl hS (by kernel_rfl) ?_
                    refine WA.done hS (by kernel_rfl) ?_
                    refine QP.pick [0, 1, 2, 3, 9, 10, 11, 111] ?_
                    refine QP.pick [0, 1, 2, 3, 9, 10, 11, 111] ?_
                    exact QP.meet ⟨_, Option.some.inj h, rfl, rfl, rfl⟩
                  · replace hc := (not_not_intro (bne_eq_false_iff_eq.1 hc))
                    rw [if_neg hc] at h
                    have hc91 := hc
                    clear hc
                    refine WA.pure [4, 5, 6, 7, 8] [0, 1, 2, 3, 9, 10, 11, 102] (m := 9) (b' := 511) (L' := [(0, .slice Al0 l0.length cl0), (1, .int .i64 a1), (2, .int .i64 a2), (3, .int .i64 a3), (9, .pointer (some ⟨bR12, 0, none⟩)), (10, .pointer (some ⟨b14, 0, none⟩)), (11, .int .i64 y17), (102, .bool (!(t81.2 == t85.2)))]) (by kernel_rfl) (NoPanic.then (NoPanic.block (NoPanic.then (NoPanic.then (NoPanic.block (NoPanic.then (NoPanic.then (NoPanic.body)))))))) Under.refl hS (by kernel_rfl) ?_
                    refine WA.split 102 (b := (!(t81.2 == t85.2))) (by kernel_rfl) (fun hc => ?_) (fun hc => ?_)
                    · replace hc := hc
                      rw [if_pos hc] at h
                      have hc92 := hc
                      clear hc
                      refine WA.pure [9, 10, 11, 12, 13, 14, 15, 16, 17] [0, 1, 2, 3, 9, 10, 11, 111] (m := 0) (b' := 262143) (L' := [(0, .slice Al0 l0.length cl0), (1, .int .i64 a1), (2, .int .i64 a2), (3, .int .i64 a3), (9, .pointer (some ⟨bR12, 0, none⟩)), (10, .pointer (some ⟨b14, 0, none⟩)), (11, .int .i64 y17), (111, .bool true)]) (by kernel_rfl) (NoPanic.then (NoPanic.block (NoPanic.then (NoPanic.then (NoPanic.block (NoPanic.then (NoPanic.then (NoPanic.body)))))))) Under.refl hS (by kernel_rfl) ?_
                      refine WA.done hS (by kernel_rfl) ?_
                      refine QP.pick [0, 1, 2, 3, 9, 10, 11, 111] ?_
                      refine QP.pick [0, 1, 2, 3, 9, 10, 11, 111] ?_
                      exact QP.meet ⟨_, Option.some.inj h, rfl, rfl, rfl⟩
                    · replace hc := (Bool.eq_false_iff.1 hc)
                      rw [if_neg hc] at h
                      have hc92 := hc
                      clear hc
                      refine WA.pure [9, 11, 12, 13] [0, 1, 2, 3, 9, 10, 11, 102, 103, 107] (m := 5) (b' := 15359) (L' := [(0, .slice Al0 l0.length cl0), (1, .int .i64 a1), (2, .int .i64 a2), (3, .int .i64 a3), (9, .pointer (some ⟨bR12, 0, none⟩)), (10, .pointer (some ⟨b14, 0, none⟩)), (11, .int .i64 y17), (102, .bool false), (103, .pointer (some ⟨bR12, 0, none⟩)), (107, .pointer (some ⟨b14, 0, none⟩))]) (by kernel_rfl) (NoPanic.then (NoPanic.block (NoPanic.then (NoPanic.then (NoPanic.block (NoPanic.then (NoPanic.then (NoPanic.body)))))))) Under.refl hS (by kernel_rfl) ?_
                      refine WA.tellD [] (i := 14) (m := 4) (b' := 31743) (by kernel_rfl) (NoPanic.then (NoPanic.block (NoPanic.then (NoPanic.then (NoPanic.block (NoPanic.then (NoPanic.then (NoPanic.body)))))))) Under.refl hS (by kernel_rfl) (op := .load 28 (.tmp 107)) (ty := 28) (d := some 108) (g := some (8, false)) (by kernel_rfl) (by kernel_rfl) (by kernel_rfl) (Tells.load_box (i := 0) (b := b14) (o := 0) (agg := false) (by rfl) ag28 (by kernel_rfl) (fun _ => rfl) (Nat.le_of_ble_eq_true rfl) (v := .slice As62_2_1_f0 s62.2.1.f0.length cs62_2_1_f0) (by kernel_rfl)) ?_
                      refine WA.pure [15] [0, 1, 2, 3, 9, 10, 11, 102, 103, 109] (m := 3) (b' := 64511) (L' := [(0, .slice Al0 l0.length cl0), (1, .int .i64 a1), (2, .int .i64 a2), (3, .int .i64 a3), (9, .pointer (some ⟨bR12, 0, none⟩)), (10, .pointer (some ⟨b14, 0, none⟩)), (11, .int .i64 y17), (102, .bool false), (103, .pointer (some ⟨bR12, 0, none⟩)), (109, .int .i64 (s62.2.1.f0.length : Int))]) (by kernel_rfl) (NoPanic.then (NoPanic.block (NoPanic.then (NoPanic.then (NoPanic.block (NoPanic.then (NoPanic.then (NoPanic.body)))))))) Under.refl hS (by kernel_rfl) ?_
                      refine WA.front (i := 4) rfl ?_
                      refine WA.front (i := 4) rfl ?_
                      refine WA.front (i := 4) rfl ?_
                      rw [Option.bind_eq_some_iff] at h
                      obtain ⟨t93, ht94, h⟩ := h
                      refine WA.op (i := 10) (m := 2) (b' := 65535) (by kernel_rfl) hS (by kernel_rfl) (op := .call { callee := (.value (.func 21)), args := #[(.tmp 103)], argTypes := #[25] }) (ty := 3) (d := some 104) (g := some (8, false)) (by kernel_rfl) (by kernel_rfl) (by kernel_rfl) (Does.call (f := 21) (args := [.pointer (some ⟨bR12, 0, none⟩)]) (by kernel_rfl) (fun W hI => (tree_Tree_Len_calls s62.2.2 bR12 As62_2_2_f0 cs62_2_2_f0 Cs62_2_2_f0 Hs62_2_2_f0 As62_2_2_f1 cs62_2_2_f1 Cs62_2_2_f1 Hs62_2_2_f1 t93 ht94 hI))) ?_
                      rintro _ _ _ ⟨rfl, rfl, rfl⟩
                      refine ⟨_, _, (Under.trans (Under.front (i := 4) rfl (Under.front (i := 4) rfl (Under.front (i := 4) rfl (Under.refl)))) (Under.refl)), Under.refl, ?_⟩
                      refine WA.pure [16, 17] [0, 1, 2, 3, 9, 10, 11, 111] (m := 0) (b' := 262143) (L' := [(0, .slice Al0 l0.length cl0), (1, .int .i64 a1), (2, .int .i64 a2), (3, .int .i64 a3), (9, .pointer (some ⟨bR12, 0, none⟩)), (10, .pointer (some ⟨b14, 0, none⟩)), (11, .int .i64 y17), (111, .bool (t93 != (s62.2.1.f0.length : Int)))]) (by kernel_rfl) (NoPanic.then (NoPanic.block (NoPanic.then (NoPanic.then (NoPanic.block (NoPanic.then (NoPanic.then (NoPanic.body)))))))) Under.refl hS (by kernel_rfl) ?_
                      refine WA.done hS (by kernel_rfl) ?_
                      refine QP.pick [0, 1, 2, 3, 9, 10, 11, 111] ?_
                      refine QP.front (i := 2) rfl ?_
                      refine QP.front (i := 2) rfl ?_
                      refine QP.front (i := 2) rfl ?_
                      refine QP.front (i := 4) rfl ?_
                      refine QP.front (i := 4) rfl ?_
                      refine QP.pick [0, 1, 2, 3, 9, 10, 11, 111] ?_
                      exact QP.meet ⟨_, Option.some.inj h, rfl, rfl, rfl⟩
                · rintro _ _ _ ⟨s89, rfl, rfl, rfl, rfl⟩
                  clear h
                  replace h := hk90
                  refine WP.cond (b := s89) (by kernel_rfl) (fun hc => ?_) (fun hc => ?_)
                  · replace hc := hc
                    rw [if_pos hc] at h
                    have hc97 := hc
                    clear hc
                    refine WP.seqP [8] (L' := [(8, .bool false)]) (by kernel_rfl) ?_
                    refine WP.dropAt 4 ?_
                    refine WP.dropAt 3 ?_
                    refine WP.dropAt 2 ?_
                    refine WP.dropAt 1 ?_
                    refine WP.dropAt 0 ?_
                    refine WP.ret ?_
                    refine QP.blockR ?_
                    refine QP.thenR ?_
                    refine QP.thenR ?_
                    refine QP.blockR ?_
                    refine QP.thenR ?_
                    refine QP.thenR ?_
                    obtain rfl := Option.some.inj h
                    obtain rfl := Option.some.inj (show some _ = some _ from hk16)
                    exact QP.returned [8] [.bool false] _ (by kernel_rfl) (by kernel_rfl) (by kernel_rfl) (fun W hI => ⟨_, _, _, rfl, ⟨rfl, rfl, rfl⟩, hI⟩)
                  · replace hc := (Bool.eq_false_iff.1 hc)
                    rw [if_neg hc] at h
                    have hc97 := hc
                    clear hc
                    refine WP.skip ?_
                    refine QP.blockN ?_
                    refine QP.next ?_
                    refine WP.pick [0, 1, 2, 3, 9, 10, 11] ?_
                    refine WP.regionP [0, 1, 2, 3, 9, 10, 11] (L' := [(0, .slice Al0 l0.length cl0), (1, .int .i64 a1), (2, .int .i64 a2), (3, .int .i64 a3), (9, .pointer (some ⟨bR12, 0, none⟩)), (10, .pointer (some ⟨b14, 0, none⟩)), (11, .int .i64 (IntKind.i64.wrap (y17 + 1)))]) (by kernel_rfl) ?_
                    refine QP.front (i := 4) rfl ?_
                    refine QP.front (i := 4) rfl ?_
                    refine QP.front (i := 4) rfl ?_
                    refine QP.front (i := 3) rfl ?_
                    refine QP.front (i := 4) rfl ?_
                    refine QP.pick [0, 1, 2, 3, 9, 10, 11] ?_
                    exact QP.meet ⟨kn21, Nat.lt_succ_self _, (IntKind.i64.wrap (y17 + 1)), s62.2.1, s62.2.2, h, As62_2_1_f0, cs62_2_1_f0, Cs62_2_1_f0, As62_2_2_f0, cs62_2_2_f0, Cs62_2_2_f0, As62_2_2_f1, cs62_2_2_f1, Cs62_2_2_f1, rfl, rfl, rfl, Hs62_2_1_f0, Hs62_2_2_f0, Hs62_2_2_f1⟩
        · replace hc := of_decide_eq_false hc
          rw [if_neg hc] at h
          have hc22 := hc
          clear hc
          refine WP.exit ?_
          refine QP.thenE ?_
          refine QP.thenE ?_
          refine QP.blockE ?_
          refine QP.front (i := 4) rfl ?_
          refine QP.front (i := 4) rfl ?_
          refine QP.front (i := 4) rfl ?_
          refine QP.front (i := 3) rfl ?_
          refine QP.front (i := 4) rfl ?_
          refine QP.pick [9, 10] ?_
          exact QP.meet ⟨_, Option.some.inj h, Ay18_f0, cy18_f0, Cy18_f0, Ay19_f0, cy19_f0, Cy19_f0, Ay19_f1, cy19_f1, Cy19_f1, rfl, rfl, rfl, Hy18_f0, Hy19_f0, Hy19_f1⟩
    · rintro _ _ _ ⟨s15, rfl, As15_1_f0, cs15_1_f0, Cs15_1_f0, As15_2_f0, cs15_2_f0, Cs15_2_f0, As15_2_f1, cs15_2_f1, Cs15_2_f1, rfl, rfl, rfl, Hs15_1_f0, Hs15_2_f0, Hs15_2_f1⟩
      clear h
      replace h := hk16
      dsimp only at h
      refine QP.next ?_
      refine WP.pick [9, 10] ?_
      refine WP.seq ?_
      refine WP.seqP [9, 10, 17] (L' := [(9, .pointer (some ⟨bR12, 0, none⟩)), (10, .pointer (some ⟨b14, 0, none⟩)), (17, .int .i64 0)]) (by kernel_rfl) ?_
      rw [Option.bind_eq_some_iff] at h
      obtain ⟨os98, h, hk99⟩ := h
      refine WP.cutQ (fun L' G' Γ' => ∃ s98 : Unit, Sum.inr s98 = os98 ∧ L' = [(9, .pointer (some ⟨bR12, 0, none⟩)), (10, .pointer (some ⟨b14, 0, none⟩))] ∧ G = G' ∧ [(b14, .cells #[.slice As15_1_f0 s15.1.f0.length cs15_1_f0] 30 (0, 0))] :: Cs15_1_f0 :: [(bR12, .cells #[mpv As15_2_f0, mpv As15_2_f1] 97 (0, 0))] :: Cs15_2_f0 :: Cs15_2_f1 :: Γ = Γ') ?_ ?_
      · skip
        refine WP.block ?_
        refine WP.pick [9, 10, 17] ?_
        refine WP.loopF (fun kn101 L' G' Γ' => ∃ (y100 : Int), grapevinelaw12_TreeScript_l1 s15 kn101 y100 = some os98 ∧ L' = [(9, .pointer (some ⟨bR12, 0, none⟩)), (10, .pointer (some ⟨b14, 0, none⟩)), (17, .int .i64 y100)] ∧ G = G' ∧ [(b14, .cells #[.slice As15_1_f0 s15.1.f0.length cs15_1_f0] 30 (0, 0))] :: Cs15_1_f0 :: [(bR12, .cells #[mpv As15_2_f0, mpv As15_2_f1] 97 (0, 0))] :: Cs15_2_f0 :: Cs15_2_f1 :: Γ = Γ') ?_ k ⟨0, h, rfl, rfl, rfl⟩
        clear h
        rintro kn102 _ _ _ ⟨y100, h, rfl, rfl, rfl⟩
        cases kn102 with
        | zero => exact absurd h (by simp [grapevinelaw12_TreeScript_l1])
        | succ kn102 =>
          simp only [grapevinelaw12_TreeScript_l1] at h
          refine WP.seq ?_
          refine WP.seqR ?_
          refine WL.pure 0 4 [9, 10, 17, 112, 115] (L' := [(9, .pointer (some ⟨bR12, 0, none⟩)), (10, .pointer (some ⟨b14, 0, none⟩)), (17, .int .i64 y100), (112, .int .i64 y100), (115, .pointer (some ⟨b14, 0, none⟩))]) (by kernel_rfl) (by decide) ?_
          refine WL.tell (op := .load 28 (.tmp 115)) (ty := 28) (d := some 116) (g := none) (by kernel_rfl) (by kernel_rfl) (by kernel_rfl) (Tells.load_box (i := 0) (b := b14) (o := 0) (agg := false) (by rfl) ag28 (by kernel_rfl) (fun _ => rfl) (Nat.le_of_ble_eq_true rfl) (v := .slice As15_1_f0 s15.1.f0.length cs15_1_f0) (by kernel_rfl)) ?_
          refine WL.restQ 5 [9, 10, 17, 118] (L' := [(9, .pointer (some ⟨bR12, 0, none⟩)), (10, .pointer (some ⟨b14, 0, none⟩)), (17, .int .i64 y100), (118, .bool (decide (y100 < (s15.1.f0.length : Int))))]) (by kernel_rfl) ?_
          refine WP.cond (b := decide (y100 < (s15.1.f0.length : Int))) (by kernel_rfl) (fun hc => ?_) (fun hc => ?_)
          · replace hc := of_decide_eq_true hc
            rw [if_pos hc] at h
            have hc103 := hc
            clear hc
            refine WP.skip ?_
            refine QP.next ?_
            refine WP.pick [9, 10, 17] ?_
            refine WP.seq ?_
            refine WP.block ?_
            refine WP.seqR ?_
            refine WL.pure 0 3 [9, 10, 17, 123] (L' := [(9, .pointer (some ⟨bR12, 0, none⟩)), (10, .pointer (some ⟨b14, 0, none⟩)), (17, .int .i64 y100), (123, .pointer (some ⟨b14, 0, none⟩))]) (by kernel_rfl) (by decide) ?_
            refine WL.tell (op := .load 28 (.tmp 123)) (ty := 28) (d := some 124) (g := none) (by kernel_rfl) (by kernel_rfl) (by kernel_rfl) (Tells.load_box (i := 0) (b := b14) (o := 0) (agg := false) (by rfl) ag28 (by kernel_rfl) (fun _ => rfl) (Nat.le_of_ble_eq_true rfl) (v := .slice As15_1_f0 s15.1.f0.length cs15_1_f0) (by kernel_rfl)) ?_
            refine WL.pure 4 5 [9, 10, 17, 124, 125] (L' := [(9, .pointer (some ⟨bR12, 0, none⟩)), (10, .pointer (some ⟨b14, 0, none⟩)), (17, .int .i64 y100), (124, .slice As15_1_f0 s15.1.f0.length cs15_1_f0), (125, .int .i64 y100)]) (by kernel_rfl) (by decide) ?_
            by_cases hb104 : 0 ≤ y100 ∧ y100 < (s15.1.f0.length : Int)
            case neg => rw [if_neg hb104] at h; cases h
            rw [if_pos hb104] at h
            refine WL.tell (op := .indexAddr 28 (.tmp 124) (.tmp 125)) (ty := 0) (d := some 126) (g := none) (by kernel_rfl) (by kernel_rfl) (by kernel_rfl) (Tells.indexAddr (A := As15_1_f0) (n := s15.1.f0.length) (c := cs15_1_f0) (k := .i64) (j := y100) (by kernel_rfl) (by kernel_rfl) (Hs15_1_f0.isSome hb104.1 hb104.2) hb104.1 hb104.2 sl28) ?_
            refine WL.tell (op := .fieldAddr 36 (.tmp 126) 0) (ty := 0) (d := some 127) (g := none) (by kernel_rfl) (by kernel_rfl) (by kernel_rfl) (Tells.fieldElem (m := y100.toNat * 5) (A := As15_1_f0) (by kernel_rfl) (Hs15_1_f0.isSome hb104.1 hb104.2) fi36_0) ?_
            refine WL.tell (op := .fieldAddr 32 (.tmp 127) 1) (ty := 0) (d := some 128) (g := none) (by kernel_rfl) (by kernel_rfl) (by kernel_rfl) (Tells.fieldElem (m := y100.toNat * 5 + 0) (A := As15_1_f0) (by kernel_rfl) (Hs15_1_f0.isSome hb104.1 hb104.2) fi32_1) ?_
            refine WL.tellE (op := .load 3 (.tmp 128)) (ty := 3) (d := some 129) (g := none) (by kernel_rfl) (by kernel_rfl) (by kernel_rfl) (Hs15_1_f0.loadF (i := 1) rfl (agg := false) (off := 1) hb104.1 hb104.2 z36 ag3 (fun _ => rfl) (by decide) (by kernel_rfl)) ?_
            rintro _ rfl
            refine WL.restQ 9 [9, 10, 17, 18] (L' := [(9, .pointer (some ⟨bR12, 0, none⟩)), (10, .pointer (some ⟨b14, 0, none⟩)), (17, .int .i64 y100), (18, .int .i64 ((s15.1.f0.getD y100.toNat z36).f1))]) (by kernel_rfl) ?_
            refine WP.seqP [9, 10, 17, 18, 19] (L' := [(9, .pointer (some ⟨bR12, 0, none⟩)), (10, .pointer (some ⟨b14, 0, none⟩)), (17, .int .i64 y100), (18, .int .i64 ((s15.1.f0.getD y100.toNat z36).f1)), (19, .int .i64 5)]) (by kernel_rfl) ?_
            rw [Option.bind_eq_some_iff] at h
            obtain ⟨os105, h, hk106⟩ := h
            refine WP.cutQ (fun L' G' Γ' => ∃ s105 : Unit, Sum.inr s105 = os105 ∧ L' = [(9, .pointer (some ⟨bR12, 0, none⟩)), (10, .pointer (some ⟨b14, 0, none⟩)), (17, .int .i64 y100)] ∧ G = G' ∧ [(b14, .cells #[.slice As15_1_f0 s15.1.f0.length cs15_1_f0] 30 (0, 0))] :: Cs15_1_f0 :: [(bR12, .cells #[mpv As15_2_f0, mpv As15_2_f1] 97 (0, 0))] :: Cs15_2_f0 :: Cs15_2_f1 :: Γ = Γ') ?_ ?_
            · skip
              refine WP.block ?_
              refine WP.pick [9, 10, 17, 18, 19] ?_
              refine WP.loopF (fun kn109 L' G' Γ' => ∃ (y107 : Int), ∃ (y108 : Int), grapevinelaw12_TreeScript_l2 s15 y100 kn109 y107 y108 = some os105 ∧ L' = [(9, .pointer (some ⟨bR12, 0, none⟩)), (10, .pointer (some ⟨b14, 0, none⟩)), (17, .int .i64 y100), (18, .int .i64 y107), (19, .int .i64 y108)] ∧ G = G' ∧ [(b14, .cells #[.slice As15_1_f0 s15.1.f0.length cs15_1_f0] 30 (0, 0))] :: Cs15_1_f0 :: [(bR12, .cells #[mpv As15_2_f0, mpv As15_2_f1] 97 (0, 0))] :: Cs15_2_f0 :: Cs15_2_f1 :: Γ = Γ') ?_ kn102 ⟨((s15.1.f0.getD y100.toNat z36).f1), 5, h, rfl, rfl, rfl⟩
              clear h
              rintro kn110 _ _ _ ⟨y107, y108, h, rfl, rfl, rfl⟩
              cases kn110 with
              | zero => exact absurd h (by simp [grapevinelaw12_TreeScript_l2])
              | succ kn110 =>
                simp only [grapevinelaw12_TreeScript_l2] at h
                refine WP.seq ?_
                refine WP.seqP [9, 10, 17, 18, 19, 131] (L' := [(9, .pointer (some ⟨bR12, 0, none⟩)), (10, .pointer (some ⟨b14, 0, none⟩)), (17, .int .i64 y100), (18, .int .i64 y107), (19, .int .i64 y108), (131, .bool (decide (y108 ≥ 0)))]) (by kernel_rfl) ?_
                refine WP.cond (b := decide (y108 ≥ 0)) (by kernel_rfl) (fun hc => ?_) (fun hc => ?_)
                · replace hc := of_decide_eq_true hc
                  rw [if_pos hc] at h
                  have hc111 := hc
                  clear hc
                  refine WP.skip ?_
                  refine QP.next ?_
                  refine WP.pick [9, 10, 17, 18, 19] ?_
                  refine WP.seq ?_
                  refine WP.block ?_
                  refine WP.seqR ?_
                  refine WL.pure 0 4 [9, 10, 17, 18, 19, 135, 138] (L' := [(9, .pointer (some ⟨bR12, 0, none⟩)), (10, .pointer (some ⟨b14, 0, none⟩)), (17, .int .i64 y100), (18, .int .i64 y107), (19, .int .i64 y108), (135, .pointer (some ⟨bR12, 0, none⟩)), (138, .pointer (some ⟨b14, 0, none⟩))]) (by kernel_rfl) (by decide) ?_
                  refine WL.tell (op := .load 28 (.tmp 138)) (ty := 28) (d := some 139) (g := none) (by kernel_rfl) (by kernel_rfl) (by kernel_rfl) (Tells.load_box (i := 0) (b := b14) (o := 0) (agg := false) (by rfl) ag28 (by kernel_rfl) (fun _ => rfl) (Nat.le_of_ble_eq_true rfl) (v := .slice As15_1_f0 s15.1.f0.length cs15_1_f0) (by kernel_rfl)) ?_
                  refine WL.pure 5 6 [9, 10, 17, 18, 19, 135, 139, 140] (L' := [(9, .pointer (some ⟨bR12, 0, none⟩)), (10, .pointer (some ⟨b14, 0, none⟩)), (17, .int .i64 y100), (18, .int .i64 y107), (19, .int .i64 y108), (135, .pointer (some ⟨bR12, 0, none⟩)), (139, .slice As15_1_f0 s15.1.f0.length cs15_1_f0), (140, .int .i64 y100)]) (by kernel_rfl) (by decide) ?_
                  by_cases hb112 : 0 ≤ y100 ∧ y100 < (s15.1.f0.length : Int)
                  case neg => rw [if_neg hb112] at h; cases h
                  rw [if_pos hb112] at h
                  refine WL.tell (op := .indexAddr 28 (.tmp 139) (.tmp 140)) (ty := 0) (d := some 141) (g := none) (by kernel_rfl) (by kernel_rfl) (by kernel_rfl) (Tells.indexAddr (A := As15_1_f0) (n := s15.1.f0.length) (c := cs15_1_f0) (k := .i64) (j := y100) (by kernel_rfl) (by kernel_rfl) (Hs15_1_f0.isSome hb112.1 hb112.2) hb112.1 hb112.2 sl28) ?_
                  refine WL.tell (op := .fieldAddr 36 (.tmp 141) 0) (ty := 0) (d := some 142) (g := none) (by kernel_rfl) (by kernel_rfl) (by kernel_rfl) (Tells.fieldElem (m := y100.toNat * 5) (A := As15_1_f0) (by kernel_rfl) (Hs15_1_f0.isSome hb112.1 hb112.2) fi36_0) ?_
                  refine WL.tell (op := .fieldAddr 32 (.tmp 142) 0) (ty := 0) (d := some 143) (g := none) (by kernel_rfl) (by kernel_rfl) (by kernel_rfl) (Tells.fieldElem (m := y100.toNat * 5 + 0) (A := As15_1_f0) (by kernel_rfl) (Hs15_1_f0.isSome hb112.1 hb112.2) fi32_0) ?_
                  refine WL.tellE (op := .load 3 (.tmp 143)) (ty := 3) (d := some 144) (g := none) (by kernel_rfl) (by kernel_rfl) (by kernel_rfl) (Hs15_1_f0.loadF (i := 1) rfl (agg := false) (off := 0) hb112.1 hb112.2 z36 ag3 (fun _ => rfl) (by decide) (by kernel_rfl)) ?_
                  rintro _ rfl
                  refine WL.pure 10 12 [9, 10, 17, 18, 19, 135, 144, 145, 146] (L' := [(9, .pointer (some ⟨bR12, 0, none⟩)), (10, .pointer (some ⟨b14, 0, none⟩)), (17, .int .i64 y100), (18, .int .i64 y107), (19, .int .i64 y108), (135, .pointer (some ⟨bR12, 0, none⟩)), (144, .int .i64 ((s15.1.f0.getD y100.toNat z36).f0)), (145, .int .i64 y108), (146, .int .i64 y107)]) (by kernel_rfl) (by decide) ?_
                  refine WL.front (i := 4) rfl ?_
                  refine WL.front (i := 4) rfl ?_
                  refine WL.front (i := 4) rfl ?_
                  rw [Option.bind_eq_some_iff] at h
                  obtain ⟨t113, ht114, h⟩ := h
                  refine WL.op (op := .call { callee := (.value (.func 19)), args := #[(.tmp 135), (.tmp 144), (.tmp 145), (.tmp 146)], argTypes := #[25, 3, 3, 3] }) (ty := 45) (d := some 147) (g := none) (by kernel_rfl) (by kernel_rfl) (by kernel_rfl) (Does.call (f := 19) (args := [.pointer (some ⟨bR12, 0, none⟩), .int .i64 ((s15.1.f0.getD y100.toNat z36).f0), .int .i64 y108, .int .i64 y107]) (by kernel_rfl) (fun W hI => (tree_Tree_Sum_calls kn110 s15.2 ((s15.1.f0.getD y100.toNat z36).f0) y108 y107 bR12 As15_2_f0 cs15_2_f0 Cs15_2_f0 Hs15_2_f0 As15_2_f1 cs15_2_f1 Cs15_2_f1 Hs15_2_f1 t113 ht114 hI))) ?_
                  rintro _ _ _ ⟨rfl, rfl, rfl⟩
                  refine WL.restQ 13 [9, 10, 17, 18, 19, 20] (L' := [(9, .pointer (some ⟨bR12, 0, none⟩)), (10, .pointer (some ⟨b14, 0, none⟩)), (17, .int .i64 y100), (18, .int .i64 y107), (19, .int .i64 y108), (20, .int .u64 t113.1)]) (by kernel_rfl) ?_
                  refine WP.seqR ?_
                  refine WL.pure 0 4 [9, 10, 17, 18, 19, 20, 151, 154] (L' := [(9, .pointer (some ⟨bR12, 0, none⟩)), (10, .pointer (some ⟨b14, 0, none⟩)), (17, .int .i64 y100), (18, .int .i64 y107), (19, .int .i64 y108), (20, .int .u64 t113.1), (151, .pointer (some ⟨b14, 0, none⟩)), (154, .pointer (some ⟨b14, 0, none⟩))]) (by kernel_rfl) (by decide) ?_
                  refine WL.tell (op := .load 28 (.tmp 154)) (ty := 28) (d := some 155) (g := none) (by kernel_rfl) (by kernel_rfl) (by kernel_rfl) (Tells.load_box (i := 3) (b := b14) (o := 0) (agg := false) (by rfl) ag28 (by kernel_rfl) (fun _ => rfl) (Nat.le_of_ble_eq_true rfl) (v := .slice As15_1_f0 s15.1.f0.length cs15_1_f0) (by kernel_rfl)) ?_
                  refine WL.pure 5 6 [9, 10, 17, 18, 19, 20, 151, 155, 156] (L' := [(9, .pointer (some ⟨bR12, 0, none⟩)), (10, .pointer (some ⟨b14, 0, none⟩)), (17, .int .i64 y100), (18, .int .i64 y107), (19, .int .i64 y108), (20, .int .u64 t113.1), (151, .pointer (some ⟨b14, 0, none⟩)), (155, .slice As15_1_f0 s15.1.f0.length cs15_1_f0), (156, .int .i64 y100)]) (by kernel_rfl) (by decide) ?_
                  by_cases hb117 : 0 ≤ y100 ∧ y100 < (s15.1.f0.length : Int)
                  case neg => rw [if_neg hb117] at h; cases h
                  rw [if_pos hb117] at h
                  refine WL.tell (op := .indexAddr 28 (.tmp 155) (.tmp 156)) (ty := 0) (d := some 157) (g := none) (by kernel_rfl) (by kernel_rfl) (by kernel_rfl) (Tells.indexAddr (A := As15_1_f0) (n := s15.1.f0.length) (c := cs15_1_f0) (k := .i64) (j := y100) (by kernel_rfl) (by kernel_rfl) (Hs15_1_f0.isSome hb117.1 hb117.2) hb117.1 hb117.2 sl28) ?_
                  refine WL.tell (op := .fieldAddr 36 (.tmp 157) 0) (ty := 0) (d := some 158) (g := none) (by kernel_rfl) (by kernel_rfl) (by kernel_rfl) (Tells.fieldElem (m := y100.toNat * 5) (A := As15_1_f0) (by kernel_rfl) (Hs15_1_f0.isSome hb117.1 hb117.2) fi36_0) ?_
                  refine WL.tell (op := .fieldAddr 32 (.tmp 158) 0) (ty := 0) (d := some 159) (g := none) (by kernel_rfl) (by kernel_rfl) (by kernel_rfl) (Tells.fieldElem (m := y100.toNat * 5 + 0) (A := As15_1_f0) (by kernel_rfl) (Hs15_1_f0.isSome hb117.1 hb117.2) fi32_0) ?_
                  refine WL.tellE (op := .load 3 (.tmp 159)) (ty := 3) (d := some 160) (g := none) (by kernel_rfl) (by kernel_rfl) (by kernel_rfl) (Hs15_1_f0.loadF (i := 4) rfl (agg := false) (off := 0) hb117.1 hb117.2 z36 ag3 (fun _ => rfl) (by decide) (by kernel_rfl)) ?_
                  rintro _ rfl
                  refine WL.pure 10 12 [9, 10, 17, 18, 19, 20, 151, 160, 161, 162] (L' := [(9, .pointer (some ⟨bR12, 0, none⟩)), (10, .pointer (some ⟨b14, 0, none⟩)), (17, .int .i64 y100), (18, .int .i64 y107), (19, .int .i64 y108), (20, .int .u64 t113.1), (151, .pointer (some ⟨b14, 0, none⟩)), (160, .int .i64 ((s15.1.f0.getD y100.toNat z36).f0)), (161, .int .i64 y108), (162, .int .i64 y107)]) (by kernel_rfl) (by decide) ?_
                  refine WL.front (i := 4) rfl ?_
                  refine WL.front (i := 4) rfl ?_
                  rw [Option.bind_eq_some_iff] at h
                  obtain ⟨t118, ht119, h⟩ := h
                  refine WL.op (op := .call { callee := (.value (.func 20)), args := #[(.tmp 151), (.tmp 160), (.tmp 161), (.tmp 162)], argTypes := #[27, 3, 3, 3] }) (ty := 45) (d := some 163) (g := none) (by kernel_rfl) (by kernel_rfl) (by kernel_rfl) (Does.call (f := 20) (args := [.pointer (some ⟨b14, 0, none⟩), .int .i64 ((s15.1.f0.getD y100.toNat z36).f0), .int .i64 y108, .int .i64 y107]) (by kernel_rfl) (fun W hI => (grapevineref12_Tree_Sum_calls HT kn110 s15.1 ((s15.1.f0.getD y100.toNat z36).f0) y108 y107 b14 As15_1_f0 cs15_1_f0 Cs15_1_f0 Hs15_1_f0 t118 ht119 hI))) ?_
                  rintro _ _ _ ⟨rfl, rfl, rfl⟩
                  refine WL.restQ 13 [9, 10, 17, 18, 19, 20, 22] (L' := [(9, .pointer (some ⟨bR12, 0, none⟩)), (10, .pointer (some ⟨b14, 0, none⟩)), (17, .int .i64 y100), (18, .int .i64 y107), (19, .int .i64 y108), (20, .int .u64 t113.1), (22, .int .u64 t118.1)]) (by kernel_rfl) ?_
                  refine WP.seq ?_
                  refine WP.seqP [9, 10, 17, 18, 19, 168] (L' := [(9, .pointer (some ⟨bR12, 0, none⟩)), (10, .pointer (some ⟨b14, 0, none⟩)), (17, .int .i64 y100), (18, .int .i64 y107), (19, .int .i64 y108), (168, .bool (t113.1 != t118.1))]) (by kernel_rfl) ?_
                  refine WP.cond (b := (t113.1 != t118.1)) (by kernel_rfl) (fun hc => ?_) (fun hc => ?_)
                  · replace hc := (bne_iff_ne.1 hc)
                    rw [if_pos hc] at h
                    have hc122 := hc
                    clear hc
                    refine WP.seqP [8] (L' := [(8, .bool false)]) (by kernel_rfl) ?_
                    refine WP.dropAt 4 ?_
                    refine WP.dropAt 3 ?_
                    refine WP.dropAt 2 ?_
                    refine WP.dropAt 1 ?_
                    refine WP.dropAt 0 ?_
                    refine WP.ret ?_
                    refine QP.thenR ?_
                    refine QP.blockR ?_
                    refine QP.thenR ?_
                    refine QP.thenR ?_
                    refine QP.blockR ?_
                    refine QP.thenR ?_
                    refine QP.blockR ?_
                    refine QP.thenR ?_
                    refine QP.thenR ?_
                    refine QP.blockR ?_
                    refine QP.thenR ?_
                    refine QP.thenR ?_
                    obtain rfl := Option.some.inj h
                    obtain rfl := Option.some.inj (show some (Sum.inl _) = some _ from hk106)
                    obtain rfl := Option.some.inj (show some _ = some _ from hk99)
                    exact QP.returned [8] [.bool false] _ (by kernel_rfl) (by kernel_rfl) (by kernel_rfl) (fun W hI => ⟨_, _, _, rfl, ⟨rfl, rfl, rfl⟩, hI⟩)
                  · replace hc := (not_not_intro (bne_eq_false_iff_eq.1 hc))
                    rw [if_neg hc] at h
                    have hc122 := hc
                    clear hc
                    refine WP.skip ?_
                    refine QP.next ?_
                    refine WP.pick [9, 10, 17, 18, 19] ?_
                    refine WP.regionP [9, 10, 17, 18, 19] (L' := [(9, .pointer (some ⟨bR12, 0, none⟩)), (10, .pointer (some ⟨b14, 0, none⟩)), (17, .int .i64 y100), (18, .int .i64 (IntKind.i64.wrap (Int.tdiv y107 4))), (19, .int .i64 y108)]) (by kernel_rfl) ?_
                    refine QP.blockN ?_
                    refine QP.next ?_
                    refine WP.pick [9, 10, 17, 18, 19] ?_
                    refine WP.regionP [9, 10, 17, 18, 19] (L' := [(9, .pointer (some ⟨bR12, 0, none⟩)), (10, .pointer (some ⟨b14, 0, none⟩)), (17, .int .i64 y100), (18, .int .i64 (IntKind.i64.wrap (Int.tdiv y107 4))), (19, .int .i64 (IntKind.i64.wrap (y108 - 1)))]) (by kernel_rfl) ?_
                    refine QP.front (i := 4) rfl ?_
                    refine QP.front (i := 4) rfl ?_
                    refine QP.front (i := 4) rfl ?_
                    refine QP.front (i := 4) rfl ?_
                    refine QP.front (i := 4) rfl ?_
                    refine QP.pick [9, 10, 17, 18, 19] ?_
                    exact QP.meet ⟨kn110, Nat.lt_succ_self _, (IntKind.i64.wrap (Int.tdiv y107 4)), (IntKind.i64.wrap (y108 - 1)), h, rfl, rfl, rfl⟩
                · replace hc := of_decide_eq_false hc
                  rw [if_neg hc] at h
                  have hc111 := hc
                  clear hc
                  refine WP.exit ?_
                  refine QP.thenE ?_
                  refine QP.thenE ?_
                  refine QP.blockE ?_
                  refine QP.pick [9, 10, 17] ?_
                  exact QP.meet ⟨_, Option.some.inj h, rfl, rfl, rfl⟩
            · rintro _ _ _ ⟨s105, rfl, rfl, rfl, rfl⟩
              clear h
              replace h := hk106
              dsimp only at h
              refine QP.blockN ?_
              refine QP.next ?_
              refine WP.pick [9, 10, 17] ?_
              refine WP.regionP [9, 10, 17] (L' := [(9, .pointer (some ⟨bR12, 0, none⟩)), (10, .pointer (some ⟨b14, 0, none⟩)), (17, .int .i64 (IntKind.i64.wrap (y100 + 1)))]) (by kernel_rfl) ?_
              refine QP.front (i := 4) rfl ?_
              refine QP.front (i := 4) rfl ?_
              refine QP.front (i := 4) rfl ?_
              refine QP.front (i := 4) rfl ?_
              refine QP.front (i := 4) rfl ?_
              refine QP.pick [9, 10, 17] ?_
              exact QP.meet ⟨kn102, Nat.lt_succ_self _, (IntKind.i64.wrap (y100 + 1)), h, rfl, rfl, rfl⟩
          · replace hc := of_decide_eq_false hc
            rw [if_neg hc] at h
            have hc103 := hc
            clear hc
            refine WP.exit ?_
            refine QP.thenE ?_
            refine QP.thenE ?_
            refine QP.blockE ?_
            refine QP.pick [9, 10] ?_
            exact QP.meet ⟨_, Option.some.inj h, rfl, rfl, rfl⟩
      · rintro _ _ _ ⟨s98, rfl, rfl, rfl, rfl⟩
        clear h
        replace h := hk99
        dsimp only at h
        refine QP.next ?_
        refine WP.pick [9, 10] ?_
        rw [Option.bind_eq_some_iff] at h
        obtain ⟨os123, h, hk124⟩ := h
        refine WP.cut (fun L' G' Γ' => ∃ s123 : Bool, s123 = os123 ∧ L' = [(8, .bool s123)] ∧ G = G' ∧ Γ = Γ') ?_ ?_
        · clear hk124
          refine WP.region ?_
          refine WL.pure 0 1 [10, 171] (L' := [(10, .pointer (some ⟨b14, 0, none⟩)), (171, .pointer (some ⟨bR12, 0, none⟩))]) (by kernel_rfl) (by decide) ?_
          refine WL.front (i := 4) rfl ?_
          refine WL.front (i := 4) rfl ?_
          refine WL.front (i := 4) rfl ?_
          rw [Option.bind_eq_some_iff] at h
          obtain ⟨t125, ht126, h⟩ := h
          refine WL.op (op := .call { callee := (.value (.func 22)), args := #[(.tmp 171)], argTypes := #[25] }) (ty := 44) (d := some 172) (g := none) (by kernel_rfl) (by kernel_rfl) (by kernel_rfl) (Does.call (f := 22) (args := [.pointer (some ⟨bR12, 0, none⟩)]) (by kernel_rfl) (fun W hI => (tree_Tree_Root_calls k s15.2 bR12 As15_2_f0 cs15_2_f0 Cs15_2_f0 Hs15_2_f0 As15_2_f1 cs15_2_f1 Cs15_2_f1 Hs15_2_f1 t125 ht126 hI))) ?_
          rintro _ _ _ ⟨rfl, rfl, rfl⟩
          refine WL.pure 2 3 [172, 173] (L' := [(172, .int .u64 t125), (173, .pointer (some ⟨b14, 0, none⟩))]) (by kernel_rfl) (by decide) ?_
          refine WL.front (i := 4) rfl ?_
          refine WL.front (i := 4) rfl ?_
          rw [Option.bind_eq_some_iff] at h
          obtain ⟨t129, ht130, h⟩ := h
          refine WL.op (op := .call { callee := (.value (.func 23)), args := #[(.tmp 173)], argTypes := #[27] }) (ty := 44) (d := some 174) (g := none) (by kernel_rfl) (by kernel_rfl) (by kernel_rfl) (Does.call (f := 23) (args := [.pointer (some ⟨b14, 0, none⟩)]) (by kernel_rfl) (fun W hI => (grapevineref12_Tree_Root_calls HT k s15.1 b14 As15_1_f0 cs15_1_f0 Cs15_1_f0 Hs15_1_f0 t129 ht130 hI))) ?_
          rintro _ _ _ ⟨rfl, rfl, rfl⟩
          refine WL.pure 4 6 [176] (L' := [(176, .bool (t125 == t129))]) (by kernel_rfl) (by decide) ?_
          refine WL.split 176 (b := (t125 == t129)) (by kernel_rfl) (fun hc => ?_) (fun hc => ?_)
          · replace hc := eq_of_beq hc
            rw [if_pos hc] at h
            have hc133 := hc
            clear hc
            rw [Option.bind_eq_some_iff] at h
            obtain ⟨t134, ht135, h⟩ := h
            refine WL.op (op := .call { callee := (.value (.func 13)), args := #[], argTypes := #[] }) (ty := 4) (d := some 177) (g := some (5, true)) (by kernel_rfl) (by kernel_rfl) (by kernel_rfl) (Does.call (f := 13) (args := []) (by kernel_rfl) (fun W hI => (grapevinelaw12_awake_calls HT k   t134 ht135 hI))) ?_
            rintro _ _ _ ⟨rfl, rfl, rfl⟩
            refine WL.rest 7 [8] (L' := [(8, .bool t134)]) (by kernel_rfl) ?_
            refine QP.dropAt 4 ?_
            refine QP.dropAt 3 ?_
            refine QP.dropAt 2 ?_
            refine QP.dropAt 1 ?_
            refine QP.dropAt 0 ?_
            refine QP.pick [8] ?_
            exact QP.meet ⟨_, Option.some.inj h, rfl, rfl, rfl⟩
          · replace hc := ne_of_beq_false hc
            rw [if_neg hc] at h
            have hc133 := hc
            clear hc
            refine WL.rest 6 [8] (L' := [(8, .bool false)]) (by kernel_rfl) ?_
            refine QP.dropAt 4 ?_
            refine QP.dropAt 3 ?_
            refine QP.dropAt 2 ?_
            refine QP.dropAt 1 ?_
            refine QP.dropAt 0 ?_
            refine QP.pick [8] ?_
            exact QP.meet ⟨_, Option.some.inj h, rfl, rfl, rfl⟩
        · rintro _ _ _ ⟨s123, rfl, rfl, rfl, rfl⟩
          clear h
          replace h := hk124
          refine WP.ret ?_
          obtain rfl := Option.some.inj h
          exact QP.returned [8] [.bool s123] _ (by kernel_rfl) (by kernel_rfl) (by kernel_rfl) (fun W hI => ⟨_, _, _, rfl, ⟨rfl, rfl, rfl⟩, hI⟩)
/-- The plain law. -/
def TreeScript_Pure : Prop := ∀ (l0 : List T38) (a1 : Int) (a2 : Int) (a3 : Int), (l0.length ≤ maxLen ∧ ∀ z0 ∈ l0, (True ∧ (Lit.int .i64 z0.f1).wf = true ∧ (Lit.int .i64 z0.f2).wf = true ∧ (Lit.int .i64 z0.f3).wf = true ∧ (Lit.int .i64 z0.f4).wf = true ∧ z0.f5.size ≤ maxLen)) → (Lit.int .i64 a1).wf = true → (Lit.int .i64 a2).wf = true → (Lit.int .i64 a3).wf = true → ∃ k, grapevinelaw12_TreeScript k l0 a1 a2 a3 = some true
end Go.Proofs.YtajhihpaccggdaaDoor.Gf
