/- Walks of Go functions: what each tells, as a plain Lean function, and that the Go code comes to it. Written by gg.py of this repo. -/
import Derived.Test.YtjefgmglgphdbaaDoorT
import Derived.Test.YtjefgmglgphdbaaDoorF0
import Derived.Test.YtjefgmglgphdbaaDoorF1
import Derived.Test.YtjefgmglgphdbaaDoorF2
import Derived.Test.YtjefgmglgphdbaaDoorF3
import Derived.Test.YtjefgmglgphdbaaDoorF4
namespace Go.Proofs.YtjefgmglgphdbaaDoor.Gf
open Go Go.Gg
set_option maxRecDepth 100000
set_option linter.unusedVariables false
set_option linter.unusedSimpArgs false

/-! ### grapevine/grapevinelaw19.StateJoins: function 6 -/
noncomputable def grapevinelaw19_StateJoins_l0 (l1 : List T36) : Nat → Int → T63 → Option T63
  | 0, _, _ => none
  | k + 1, y43, y44 => (if y43 < (l1.length : Int) then (if 0 ≤ y43 ∧ y43 < (l1.length : Int) then ((grapevinelaw19_play k y44 (l1.getD y43.toNat z36)).bind fun t50 => grapevinelaw19_StateJoins_l0 l1 k (IntKind.i64.wrap (y43 + 1)) t50) else none) else some y44)
noncomputable def grapevinelaw19_StateJoins_l1 (l2 : List T36) : Nat → Int → T63 → Option T63
  | 0, _, _ => none
  | k + 1, y56, y57 => (if y56 < (l2.length : Int) then (if 0 ≤ y56 ∧ y56 < (l2.length : Int) then ((grapevinelaw19_play k y57 (l2.getD y56.toNat z36)).bind fun t63 => grapevinelaw19_StateJoins_l1 l2 k (IntKind.i64.wrap (y56 + 1)) t63) else none) else some y57)
noncomputable def grapevinelaw19_StateJoins_l2 (t146 : List T34) : Nat → Int → T63 → Option (Sum Bool T63)
  | 0, _, _ => none
  | k + 1, y154, y155 => (if y154 < (t146.length : Int) then (if 0 ≤ y154 ∧ y154 < (t146.length : Int) then ((state_State_Accept y155 (t146.getD y154.toNat z34)).bind fun t160 => (if ¬ t160.1 = 0 then some (Sum.inl false) else grapevinelaw19_StateJoins_l2 t146 k (IntKind.i64.wrap (y154 + 1)) t160.2)) else none) else some (Sum.inr y155))
noncomputable def grapevinelaw19_StateJoins (k : Nat) (a0 : Int) (l1 : List T36) (l2 : List T36) : Option Bool := ((state_New a0).bind fun t1 => Option.elim t1 ((state_New a0).bind fun t5 => Option.elim t5 ((grapevinelaw19_awake k ).bind fun t9 => some t9) (fun x8 => ((grapevinelaw19_awake k ).bind fun t13 => some t13))) (fun x4 => ((state_New a0).bind fun t17 => Option.elim t17 ((grapevinelaw19_awake k ).bind fun t21 => some t21) (fun x20 => (((grapevinelaw19_great k l1 30).bind fun t27 => (if t27 = true then some true else ((grapevinelaw19_great k l2 30).bind fun t32 => some t32))).bind fun s25 => (if s25 = true then ((grapevinelaw19_awake k ).bind fun t37 => some t37) else ((grapevinelaw19_StateJoins_l0 l1 k 0 x4).bind fun s41 => ((grapevinelaw19_StateJoins_l1 l2 k 0 x20).bind fun s54 => ((state_Join k s41 s54).bind fun t68 => Option.elim t68 (some false) (fun x71 => (((grapevinelaw19_whole k x71).bind fun t74 => (if (!t74) = true then some true else ((state_Join_40 k s54 s41).bind fun t80 => Option.elim t80 ((state_Same_36 x71).bind fun t84 => (if (!t84) = true then some true else ((state_Join_41 s41).bind fun t90 => ((state_Same k t90 s41).bind fun t94 => (if (!t94) = true then some true else ((state_Join_42 s41).bind fun t100 => some false)))))) (fun x83 => ((state_Same k x71 x83).bind fun t104 => (if (!t104) = true then some true else ((state_Join_41 s41).bind fun t110 => ((state_Same k t110 s41).bind fun t114 => (if (!t114) = true then some true else ((state_Join_42 s41).bind fun t120 => some false)))))))))).bind fun s72 => (if s72 = true then some false else ((state_State_Copy s41).bind fun t125 => ((state_State_W s54).bind fun t129 => ((state_State_Raise k t125 t129).bind fun t133 => ((state_State_V t133.2).bind fun t138 => ((state_State_W t133.2).bind fun t142 => ((state_State_Lacks k s54 t138 t142).bind fun t146 => ((grapevinelaw19_StateJoins_l2 t146 k 0 t133.2).bind fun os152 => match os152 with | Sum.inl r => some r | Sum.inr s152 => (((state_Same k s152 x71).bind fun t167 => (if t167 = true then ((grapevinelaw19_awake k ).bind fun t172 => some t172) else some false)).bind fun s165 => some s165))))))))))))))))))))
set_option maxHeartbeats 4000000 in
theorem grapevinelaw19_StateJoins_calls {B : World} {G : GMap} {Γ : List Chunk} {W : World} (HT : Tabs B G) (k : Nat) (a0 : Int) (l1 : List T36) (l2 : List T36) (Al1 : Option Addr) (cl1 : Nat) (Hl1 : Rd k36 G Al1 cl1 l1) (Al2 : Option Addr) (cl2 : Nat) (Hl2 : Rd k36 G Al2 cl2 l2) (r : Bool) (h : grapevinelaw19_StateJoins k a0 l1 l2 = some r) (hI : Inv B G (Γ) W) :
    Calls Tryd.prog 6 [.int .i64 a0, .slice Al1 l1.length cl1, .slice Al2 l2.length cl2].toArray W (Ret B (fun v G' Γ' => v = .bool r ∧ G = G' ∧ Γ = Γ')) := by
  refine calls_WP (Γ := Γ) (G := G) (B := B) Tryd.func6 rfl (by kernel_rfl) ?_ hI
  clear hI
  unfold grapevinelaw19_StateJoins at h
  refine WP.seqP [0, 1, 2] (L' := [(0, .int .i64 a0), (1, .slice Al1 l1.length cl1), (2, .slice Al2 l2.length cl2)]) (by kernel_rfl) ?_
  refine WP.seqR ?_
  refine WL.pure 0 1 [0, 1, 2, 15] (L' := [(0, .int .i64 a0), (1, .slice Al1 l1.length cl1), (2, .slice Al2 l2.length cl2), (15, .int .i64 a0)]) (by kernel_rfl) (by decide) ?_
  rw [Option.bind_eq_some_iff] at h
  obtain ⟨t1, ht2, h⟩ := h
  refine WL.op (op := .call { callee := (.value (.func 8)), args := #[(.tmp 15)], argTypes := #[3] }) (ty := 23) (d := some 16) (g := none) (by kernel_rfl) (by kernel_rfl) (by kernel_rfl) (Does.call (f := 8) (args := [.int .i64 a0]) (by kernel_rfl) (fun W hI => (state_New_calls a0  t1 ht2 hI))) ?_
  rintro _ _ _ (⟨hx, rfl, rfl, rfl⟩ | ⟨x4, hx, bR3, AR3_0, cR3_0, CR3_0, AR3_1, cR3_1, CR3_1, AR3_2, cR3_2, CR3_2, rfl, HR3_0, HR3_1, HR3_2, rfl, rfl⟩)
  · rw [hx] at h
    rw [Option.elim_none] at h
    clear hx
    refine WL.pure 2 3 [1, 2, 16, 17] (L' := [(1, .slice Al1 l1.length cl1), (2, .slice Al2 l2.length cl2), (16, .pointer none), (17, .int .i64 a0)]) (by kernel_rfl) (by decide) ?_
    rw [Option.bind_eq_some_iff] at h
    obtain ⟨t5, ht6, h⟩ := h
    refine WL.op (op := .call { callee := (.value (.func 8)), args := #[(.tmp 17)], argTypes := #[3] }) (ty := 23) (d := some 18) (g := none) (by kernel_rfl) (by kernel_rfl) (by kernel_rfl) (Does.call (f := 8) (args := [.int .i64 a0]) (by kernel_rfl) (fun W hI => (state_New_calls a0  t5 ht6 hI))) ?_
    rintro _ _ _ (⟨hx, rfl, rfl, rfl⟩ | ⟨x8, hx, bR7, AR7_0, cR7_0, CR7_0, AR7_1, cR7_1, CR7_1, AR7_2, cR7_2, CR7_2, rfl, HR7_0, HR7_1, HR7_2, rfl, rfl⟩)
    · rw [hx] at h
      rw [Option.elim_none] at h
      clear hx
      refine WL.restQ 4 [1, 2, 7, 8] (L' := [(1, .slice Al1 l1.length cl1), (2, .slice Al2 l2.length cl2), (7, .pointer none), (8, .pointer none)]) (by kernel_rfl) ?_
      refine WP.seq ?_
      refine WP.seqP [1, 2, 7, 8, 32] (L' := [(1, .slice Al1 l1.length cl1), (2, .slice Al2 l2.length cl2), (7, .pointer none), (8, .pointer none), (32, .bool true)]) (by kernel_rfl) ?_
      refine WP.yes (by kernel_rfl) ?_
      refine WP.seqR ?_
      rw [Option.bind_eq_some_iff] at h
      obtain ⟨t9, ht10, h⟩ := h
      refine WL.op (op := .call { callee := (.value (.func 10)), args := #[], argTypes := #[] }) (ty := 4) (d := some 33) (g := none) (by kernel_rfl) (by kernel_rfl) (by kernel_rfl) (Does.call (f := 10) (args := []) (by kernel_rfl) (fun W hI => (grapevinelaw19_awake_calls HT k   t9 ht10 hI))) ?_
      rintro _ _ _ ⟨rfl, rfl, rfl⟩
      refine WL.restQ 1 [6] (L' := [(6, .bool t9)]) (by kernel_rfl) ?_
      refine WP.ret ?_
      refine QP.thenR ?_
      obtain rfl := Option.some.inj h
      exact QP.returned [6] [.bool t9] _ (by kernel_rfl) (by kernel_rfl) (by kernel_rfl) (fun W hI => ⟨_, _, _, rfl, ⟨rfl, rfl, rfl⟩, hI⟩)
    · rw [hx] at h
      rw [Option.elim_some] at h
      clear hx
      refine WL.restQ 4 [1, 2, 7, 8] (L' := [(1, .slice Al1 l1.length cl1), (2, .slice Al2 l2.length cl2), (7, .pointer none), (8, .pointer (some ⟨bR7, 0, none⟩))]) (by kernel_rfl) ?_
      refine WP.seq ?_
      refine WP.seqP [1, 2, 7, 8, 32] (L' := [(1, .slice Al1 l1.length cl1), (2, .slice Al2 l2.length cl2), (7, .pointer none), (8, .pointer (some ⟨bR7, 0, none⟩)), (32, .bool true)]) (by kernel_rfl) ?_
      refine WP.yes (by kernel_rfl) ?_
      refine WP.seqR ?_
      rw [Option.bind_eq_some_iff] at h
      obtain ⟨t13, ht14, h⟩ := h
      refine WL.op (op := .call { callee := (.value (.func 10)), args := #[], argTypes := #[] }) (ty := 4) (d := some 33) (g := none) (by kernel_rfl) (by kernel_rfl) (by kernel_rfl) (Does.call (f := 10) (args := []) (by kernel_rfl) (fun W hI => (grapevinelaw19_awake_calls HT k   t13 ht14 hI))) ?_
      rintro _ _ _ ⟨rfl, rfl, rfl⟩
      refine WL.restQ 1 [6] (L' := [(6, .bool t13)]) (by kernel_rfl) ?_
      refine WP.dropAt 3 ?_
      refine WP.dropAt 2 ?_
      refine WP.dropAt 1 ?_
      refine WP.dropAt 0 ?_
      refine WP.ret ?_
      refine QP.thenR ?_
      obtain rfl := Option.some.inj h
      exact QP.returned [6] [.bool t13] _ (by kernel_rfl) (by kernel_rfl) (by kernel_rfl) (fun W hI => ⟨_, _, _, rfl, ⟨rfl, rfl, rfl⟩, hI⟩)
  · rw [hx] at h
    rw [Option.elim_some] at h
    clear hx
    refine WL.pure 2 3 [1, 2, 16, 17] (L' := [(1, .slice Al1 l1.length cl1), (2, .slice Al2 l2.length cl2), (16, .pointer (some ⟨bR3, 0, none⟩)), (17, .int .i64 a0)]) (by kernel_rfl) (by decide) ?_
    rw [Option.bind_eq_some_iff] at h
    obtain ⟨t17, ht18, h⟩ := h
    refine WL.op (op := .call { callee := (.value (.func 8)), args := #[(.tmp 17)], argTypes := #[3] }) (ty := 23) (d := some 18) (g := none) (by kernel_rfl) (by kernel_rfl) (by kernel_rfl) (Does.call (f := 8) (args := [.int .i64 a0]) (by kernel_rfl) (fun W hI => (state_New_calls a0  t17 ht18 hI))) ?_
    rintro _ _ _ (⟨hx, rfl, rfl, rfl⟩ | ⟨x20, hx, bR19, AR19_0, cR19_0, CR19_0, AR19_1, cR19_1, CR19_1, AR19_2, cR19_2, CR19_2, rfl, HR19_0, HR19_1, HR19_2, rfl, rfl⟩)
    · rw [hx] at h
      rw [Option.elim_none] at h
      clear hx
      refine WL.restQ 4 [1, 2, 7, 8] (L' := [(1, .slice Al1 l1.length cl1), (2, .slice Al2 l2.length cl2), (7, .pointer (some ⟨bR3, 0, none⟩)), (8, .pointer none)]) (by kernel_rfl) ?_
      refine WP.seq ?_
      refine WP.seqP [1, 2, 7, 8, 32] (L' := [(1, .slice Al1 l1.length cl1), (2, .slice Al2 l2.length cl2), (7, .pointer (some ⟨bR3, 0, none⟩)), (8, .pointer none), (32, .bool true)]) (by kernel_rfl) ?_
      refine WP.yes (by kernel_rfl) ?_
      refine WP.seqR ?_
      rw [Option.bind_eq_some_iff] at h
      obtain ⟨t21, ht22, h⟩ := h
      refine WL.op (op := .call { callee := (.value (.func 10)), args := #[], argTypes := #[] }) (ty := 4) (d := some 33) (g := none) (by kernel_rfl) (by kernel_rfl) (by kernel_rfl) (Does.call (f := 10) (args := []) (by kernel_rfl) (fun W hI => (grapevinelaw19_awake_calls HT k   t21 ht22 hI))) ?_
      rintro _ _ _ ⟨rfl, rfl, rfl⟩
      refine WL.restQ 1 [6] (L' := [(6, .bool t21)]) (by kernel_rfl) ?_
      refine WP.dropAt 3 ?_
      refine WP.dropAt 2 ?_
      refine WP.dropAt 1 ?_
      refine WP.dropAt 0 ?_
      refine WP.ret ?_
      refine QP.thenR ?_
      obtain rfl := Option.some.inj h
      exact QP.returned [6] [.bool t21] _ (by kernel_rfl) (by kernel_rfl) (by kernel_rfl) (fun W hI => ⟨_, _, _, rfl, ⟨rfl, rfl, rfl⟩, hI⟩)
    · rw [hx] at h
      rw [Option.elim_some] at h
      clear hx
      refine WL.restQ 4 [1, 2, 7, 8] (L' := [(1, .slice Al1 l1.length cl1), (2, .slice Al2 l2.length cl2), (7, .pointer (some ⟨bR3, 0, none⟩)), (8, .pointer (some ⟨bR19, 0, none⟩))]) (by kernel_rfl) ?_
      refine WP.seq ?_
      rw [Option.bind_eq_some_iff] at h
      obtain ⟨os25, h, hk26⟩ := h
      refine WP.cut (fun L' G' Γ' => ∃ s25 : Bool, s25 = os25 ∧ L' = [(1, .slice Al1 l1.length cl1), (2, .slice Al2 l2.length cl2), (7, .pointer (some ⟨bR3, 0, none⟩)), (8, .pointer (some ⟨bR19, 0, none⟩)), (32, .bool s25)] ∧ G = G' ∧ [(bR19, .cells #[.slice AR19_0 x20.f0.length cR19_0, .slice AR19_1 x20.f1.length cR19_1, mpv AR19_2] 63 (0, 0))] :: CR19_0 :: CR19_1 :: CR19_2 :: [(bR3, .cells #[.slice AR3_0 x4.f0.length cR3_0, .slice AR3_1 x4.f1.length cR3_1, mpv AR3_2] 63 (0, 0))] :: CR3_0 :: CR3_1 :: CR3_2 :: Γ = Γ') ?_ ?_
      · clear hk26
        refine WP.region ?_
        refine WL.pure 0 8 [1, 2, 7, 8, 25, 26] (L' := [(1, .slice Al1 l1.length cl1), (2, .slice Al2 l2.length cl2), (7, .pointer (some ⟨bR3, 0, none⟩)), (8, .pointer (some ⟨bR19, 0, none⟩)), (25, .bool false), (26, .slice Al1 l1.length cl1)]) (by kernel_rfl) (by decide) ?_
        rw [Option.bind_eq_some_iff] at h
        obtain ⟨t27, ht28, h⟩ := h
        refine WL.op (op := .call { callee := (.value (.func 9)), args := #[(.tmp 26), (.const (.int .i64 30))], argTypes := #[22, 3] }) (ty := 4) (d := some 27) (g := some (6, false)) (by kernel_rfl) (by kernel_rfl) (by kernel_rfl) (Does.call (f := 9) (args := [.slice Al1 l1.length cl1, .int .i64 30]) (by kernel_rfl) (fun W hI => (grapevinelaw19_great_calls k l1 30 Al1 cl1 Hl1 t27 ht28 hI))) ?_
        rintro _ _ _ ⟨rfl, rfl, rfl⟩
        refine WL.pure 9 11 [1, 2, 7, 8, 29] (L' := [(1, .slice Al1 l1.length cl1), (2, .slice Al2 l2.length cl2), (7, .pointer (some ⟨bR3, 0, none⟩)), (8, .pointer (some ⟨bR19, 0, none⟩)), (29, .bool t27)]) (by kernel_rfl) (by decide) ?_
        refine WL.split 29 (b := t27) (by kernel_rfl) (fun hc => ?_) (fun hc => ?_)
        · replace hc := hc
          rw [if_pos hc] at h
          have hc31 := hc
          clear hc
          refine WL.rest 11 [1, 2, 7, 8, 32] (L' := [(1, .slice Al1 l1.length cl1), (2, .slice Al2 l2.length cl2), (7, .pointer (some ⟨bR3, 0, none⟩)), (8, .pointer (some ⟨bR19, 0, none⟩)), (32, .bool true)]) (by kernel_rfl) ?_
          refine QP.pick [1, 2, 7, 8, 32] ?_
          exact QP.meet ⟨_, Option.some.inj h, rfl, rfl, rfl⟩
        · replace hc := (Bool.eq_false_iff.1 hc)
          rw [if_neg hc] at h
          have hc31 := hc
          clear hc
          refine WL.pure 11 12 [1, 2, 7, 8, 29, 30] (L' := [(1, .slice Al1 l1.length cl1), (2, .slice Al2 l2.length cl2), (7, .pointer (some ⟨bR3, 0, none⟩)), (8, .pointer (some ⟨bR19, 0, none⟩)), (29, .bool false), (30, .slice Al2 l2.length cl2)]) (by kernel_rfl) (by decide) ?_
          rw [Option.bind_eq_some_iff] at h
          obtain ⟨t32, ht33, h⟩ := h
          refine WL.op (op := .call { callee := (.value (.func 9)), args := #[(.tmp 30), (.const (.int .i64 30))], argTypes := #[22, 3] }) (ty := 4) (d := some 31) (g := some (10, false)) (by kernel_rfl) (by kernel_rfl) (by kernel_rfl) (Does.call (f := 9) (args := [.slice Al2 l2.length cl2, .int .i64 30]) (by kernel_rfl) (fun W hI => (grapevinelaw19_great_calls k l2 30 Al2 cl2 Hl2 t32 ht33 hI))) ?_
          rintro _ _ _ ⟨rfl, rfl, rfl⟩
          refine WL.rest 13 [1, 2, 7, 8, 32] (L' := [(1, .slice Al1 l1.length cl1), (2, .slice Al2 l2.length cl2), (7, .pointer (some ⟨bR3, 0, none⟩)), (8, .pointer (some ⟨bR19, 0, none⟩)), (32, .bool t32)]) (by kernel_rfl) ?_
          refine QP.pick [1, 2, 7, 8, 32] ?_
          exact QP.meet ⟨_, Option.some.inj h, rfl, rfl, rfl⟩
      · rintro _ _ _ ⟨s25, rfl, rfl, rfl, rfl⟩
        clear h
        replace h := hk26
        refine WP.cond (b := s25) (by kernel_rfl) (fun hc => ?_) (fun hc => ?_)
        · replace hc := hc
          rw [if_pos hc] at h
          have hc36 := hc
          clear hc
          refine WP.seqR ?_
          rw [Option.bind_eq_some_iff] at h
          obtain ⟨t37, ht38, h⟩ := h
          refine WL.op (op := .call { callee := (.value (.func 10)), args := #[], argTypes := #[] }) (ty := 4) (d := some 33) (g := none) (by kernel_rfl) (by kernel_rfl) (by kernel_rfl) (Does.call (f := 10) (args := []) (by kernel_rfl) (fun W hI => (grapevinelaw19_awake_calls HT k   t37 ht38 hI))) ?_
          rintro _ _ _ ⟨rfl, rfl, rfl⟩
          refine WL.restQ 1 [6] (L' := [(6, .bool t37)]) (by kernel_rfl) ?_
          refine WP.dropAt 7 ?_
          refine WP.dropAt 6 ?_
          refine WP.dropAt 5 ?_
          refine WP.dropAt 4 ?_
          refine WP.dropAt 3 ?_
          refine WP.dropAt 2 ?_
          refine WP.dropAt 1 ?_
          refine WP.dropAt 0 ?_
          refine WP.ret ?_
          refine QP.thenR ?_
          obtain rfl := Option.some.inj h
          exact QP.returned [6] [.bool t37] _ (by kernel_rfl) (by kernel_rfl) (by kernel_rfl) (fun W hI => ⟨_, _, _, rfl, ⟨rfl, rfl, rfl⟩, hI⟩)
        · replace hc := (Bool.eq_false_iff.1 hc)
          rw [if_neg hc] at h
          have hc36 := hc
          clear hc
          refine WP.skip ?_
          refine QP.next ?_
          refine WP.pick [1, 2, 7, 8] ?_
          refine WP.seq ?_
          refine WP.seqP [1, 2, 7, 8, 9] (L' := [(1, .slice Al1 l1.length cl1), (2, .slice Al2 l2.length cl2), (7, .pointer (some ⟨bR3, 0, none⟩)), (8, .pointer (some ⟨bR19, 0, none⟩)), (9, .int .i64 0)]) (by kernel_rfl) ?_
          rw [Option.bind_eq_some_iff] at h
          obtain ⟨os41, h, hk42⟩ := h
          refine WP.cutQ (fun L' G' Γ' => ∃ s41 : T63, s41 = os41 ∧ ∃ (As41_f0 : Option Addr), ∃ (cs41_f0 : Nat), ∃ (Cs41_f0 : Chunk), ∃ (As41_f1 : Option Addr), ∃ (cs41_f1 : Nat), ∃ (Cs41_f1 : Chunk), ∃ (As41_f2 : Option Addr), ∃ (cs41_f2 : Nat), ∃ (Cs41_f2 : Chunk), L' = [(2, .slice Al2 l2.length cl2), (7, .pointer (some ⟨bR3, 0, none⟩)), (8, .pointer (some ⟨bR19, 0, none⟩))] ∧ G = G' ∧ [(bR19, .cells #[.slice AR19_0 x20.f0.length cR19_0, .slice AR19_1 x20.f1.length cR19_1, mpv AR19_2] 63 (0, 0))] :: CR19_0 :: CR19_1 :: CR19_2 :: [(bR3, .cells #[.slice As41_f0 s41.f0.length cs41_f0, .slice As41_f1 s41.f1.length cs41_f1, mpv As41_f2] 63 (0, 0))] :: Cs41_f0 :: Cs41_f1 :: Cs41_f2 :: Γ = Γ' ∧ Ow (kInt .i64) G As41_f0 cs41_f0 s41.f0 Cs41_f0 ∧ Ow (kInt .i64) G As41_f1 cs41_f1 s41.f1 Cs41_f1 ∧ MpF m61 G As41_f2 cs41_f2 s41.f2 Cs41_f2) ?_ ?_
          · clear hk42
            refine WP.block ?_
            refine WP.pick [1, 2, 7, 8, 9] ?_
            refine WP.loopF (fun kn45 L' G' Γ' => ∃ (y43 : Int), ∃ (y44 : T63), grapevinelaw19_StateJoins_l0 l1 kn45 y43 y44 = some os41 ∧ ∃ (Ay44_f0 : Option Addr), ∃ (cy44_f0 : Nat), ∃ (Cy44_f0 : Chunk), ∃ (Ay44_f1 : Option Addr), ∃ (cy44_f1 : Nat), ∃ (Cy44_f1 : Chunk), ∃ (Ay44_f2 : Option Addr), ∃ (cy44_f2 : Nat), ∃ (Cy44_f2 : Chunk), L' = [(1, .slice Al1 l1.length cl1), (2, .slice Al2 l2.length cl2), (7, .pointer (some ⟨bR3, 0, none⟩)), (8, .pointer (some ⟨bR19, 0, none⟩)), (9, .int .i64 y43)] ∧ G = G' ∧ [(bR19, .cells #[.slice AR19_0 x20.f0.length cR19_0, .slice AR19_1 x20.f1.length cR19_1, mpv AR19_2] 63 (0, 0))] :: CR19_0 :: CR19_1 :: CR19_2 :: [(bR3, .cells #[.slice Ay44_f0 y44.f0.length cy44_f0, .slice Ay44_f1 y44.f1.length cy44_f1, mpv Ay44_f2] 63 (0, 0))] :: Cy44_f0 :: Cy44_f1 :: Cy44_f2 :: Γ = Γ' ∧ Ow (kInt .i64) G Ay44_f0 cy44_f0 y44.f0 Cy44_f0 ∧ Ow (kInt .i64) G Ay44_f1 cy44_f1 y44.f1 Cy44_f1 ∧ MpF m61 G Ay44_f2 cy44_f2 y44.f2 Cy44_f2) ?_ k ⟨0, x4, h, AR3_0, cR3_0, CR3_0, AR3_1, cR3_1, CR3_1, AR3_2, cR3_2, CR3_2, rfl, rfl, rfl, HR3_0, HR3_1, HR3_2⟩
            clear h
            rintro kn46 _ _ _ ⟨y43, y44, h, Ay44_f0, cy44_f0, Cy44_f0, Ay44_f1, cy44_f1, Cy44_f1, Ay44_f2, cy44_f2, Cy44_f2, rfl, rfl, rfl, Hy44_f0, Hy44_f1, Hy44_f2⟩
            cases kn46 with
            | zero => exact absurd h (by simp [grapevinelaw19_StateJoins_l0])
            | succ kn46 =>
              simp only [grapevinelaw19_StateJoins_l0] at h
              refine WP.seq ?_
              refine WP.seqP [1, 2, 7, 8, 9, 37] (L' := [(1, .slice Al1 l1.length cl1), (2, .slice Al2 l2.length cl2), (7, .pointer (some ⟨bR3, 0, none⟩)), (8, .pointer (some ⟨bR19, 0, none⟩)), (9, .int .i64 y43), (37, .bool (decide (y43 < (l1.length : Int))))]) (by kernel_rfl) ?_
              refine WP.cond (b := decide (y43 < (l1.length : Int))) (by kernel_rfl) (fun hc => ?_) (fun hc => ?_)
              · replace hc := of_decide_eq_true hc
                rw [if_pos hc] at h
                have hc47 := hc
                clear hc
                refine WP.skip ?_
                refine QP.next ?_
                refine WP.pick [1, 2, 7, 8, 9] ?_
                refine WP.seq ?_
                refine WP.block ?_
                refine WP.region ?_
                refine WL.pure 0 3 [1, 2, 7, 8, 9, 40, 41, 42] (L' := [(1, .slice Al1 l1.length cl1), (2, .slice Al2 l2.length cl2), (7, .pointer (some ⟨bR3, 0, none⟩)), (8, .pointer (some ⟨bR19, 0, none⟩)), (9, .int .i64 y43), (40, .pointer (some ⟨bR3, 0, none⟩)), (41, .slice Al1 l1.length cl1), (42, .int .i64 y43)]) (by kernel_rfl) (by decide) ?_
                by_cases hb48 : 0 ≤ y43 ∧ y43 < (l1.length : Int)
                case neg => rw [if_neg hb48] at h; cases h
                rw [if_pos hb48] at h
                refine WL.tell (op := .indexAddr 22 (.tmp 41) (.tmp 42)) (ty := 0) (d := some 43) (g := none) (by kernel_rfl) (by kernel_rfl) (by kernel_rfl) (Tells.indexAddr (A := Al1) (n := l1.length) (c := cl1) (k := .i64) (j := y43) (by kernel_rfl) (by kernel_rfl) (Hl1.isSome hb48.1 hb48.2) hb48.1 hb48.2 sl22) ?_
                refine WL.tellE (op := .load 36 (.tmp 43)) (ty := 36) (d := some 44) (g := none) (by kernel_rfl) (by kernel_rfl) (by kernel_rfl) (Hl1.load (agg := true) hb48.1 hb48.2 z36 ag36 (fun h => by cases h) (by kernel_rfl)) ?_
                rintro _ ⟨_, _, rfl, rfl, ⟨_, _, rfl, rfl, ⟨_, _, rfl, rfl, ⟨_, _, rfl, rfl, ⟨_, _, rfl, rfl, ⟨_, _, rfl, rfl, ⟨_, _, rfl, rfl, ⟨_, _, rfl, rfl, ⟨Ae49, ce49, rfl, He49⟩⟩⟩⟩⟩⟩⟩⟩⟩
                replace He49 : Rd (kInt .i64) G Ae49 ce49 ((l1.getD y43.toNat z36).f8) := He49
                refine WL.reperm (Γ' := [(bR3, .cells #[.slice Ay44_f0 y44.f0.length cy44_f0, .slice Ay44_f1 y44.f1.length cy44_f1, mpv Ay44_f2] 63 (0, 0))] :: Cy44_f0 :: Cy44_f1 :: Cy44_f2 :: [(bR19, .cells #[.slice AR19_0 x20.f0.length cR19_0, .slice AR19_1 x20.f1.length cR19_1, mpv AR19_2] 63 (0, 0))] :: CR19_0 :: CR19_1 :: CR19_2 :: Γ) (perm_sel [4, 5, 6, 7, 0, 1, 2, 3] (by kernel_rfl) rfl) ?_
                rw [Option.bind_eq_some_iff] at h
                obtain ⟨t50, ht51, h⟩ := h
                refine WL.op (op := .call { callee := (.value (.func 18)), args := #[(.tmp 40), (.tmp 44)], argTypes := #[23, 36] }) (ty := 0) (d := some 45) (g := none) (by kernel_rfl) (by kernel_rfl) (by kernel_rfl) (Does.call (f := 18) (args := [.pointer (some ⟨bR3, 0, none⟩), .agg #[.int .i64 ((l1.getD y43.toNat z36).f0), .int .i64 ((l1.getD y43.toNat z36).f1), .int .i64 ((l1.getD y43.toNat z36).f2), .int .i64 ((l1.getD y43.toNat z36).f3), .int .i64 ((l1.getD y43.toNat z36).f4), .int .i64 ((l1.getD y43.toNat z36).f5), .int .i64 ((l1.getD y43.toNat z36).f6), .string ((l1.getD y43.toNat z36).f7), .slice Ae49 ((l1.getD y43.toNat z36).f8).length ce49]]) (by kernel_rfl) (fun W hI => (grapevinelaw19_play_calls HT kn46 y44 (l1.getD y43.toNat z36) bR3 Ay44_f0 cy44_f0 Cy44_f0 Hy44_f0 Ay44_f1 cy44_f1 Cy44_f1 Hy44_f1 Ay44_f2 cy44_f2 Cy44_f2 Hy44_f2 Ae49 ce49 He49 t50 ht51 hI))) ?_
                rintro _ _ _ ⟨AR52p0_0, cR52p0_0, CR52p0_0, AR52p0_1, cR52p0_1, CR52p0_1, AR52p0_2, cR52p0_2, CR52p0_2, rfl, HR52p0_0, HR52p0_1, HR52p0_2, rfl, rfl⟩
                refine WL.rest 6 [1, 2, 7, 8, 9] (L' := [(1, .slice Al1 l1.length cl1), (2, .slice Al2 l2.length cl2), (7, .pointer (some ⟨bR3, 0, none⟩)), (8, .pointer (some ⟨bR19, 0, none⟩)), (9, .int .i64 y43)]) (by kernel_rfl) ?_
                refine QP.blockN ?_
                refine QP.next ?_
                refine WP.pick [1, 2, 7, 8, 9] ?_
                refine WP.regionP [1, 2, 7, 8, 9] (L' := [(1, .slice Al1 l1.length cl1), (2, .slice Al2 l2.length cl2), (7, .pointer (some ⟨bR3, 0, none⟩)), (8, .pointer (some ⟨bR19, 0, none⟩)), (9, .int .i64 (IntKind.i64.wrap (y43 + 1)))]) (by kernel_rfl) ?_
                refine QP.reperm (Γ' := [(bR19, .cells #[.slice AR19_0 x20.f0.length cR19_0, .slice AR19_1 x20.f1.length cR19_1, mpv AR19_2] 63 (0, 0))] :: CR19_0 :: CR19_1 :: CR19_2 :: [(bR3, .cells #[.slice AR52p0_0 t50.f0.length cR52p0_0, .slice AR52p0_1 t50.f1.length cR52p0_1, mpv AR52p0_2] 63 (0, 0))] :: CR52p0_0 :: CR52p0_1 :: CR52p0_2 :: Γ) (perm_sel [4, 5, 6, 7, 0, 1, 2, 3] (by kernel_rfl) rfl) ?_
                refine QP.pick [1, 2, 7, 8, 9] ?_
                exact QP.meet ⟨kn46, Nat.lt_succ_self _, (IntKind.i64.wrap (y43 + 1)), t50, h, AR52p0_0, cR52p0_0, CR52p0_0, AR52p0_1, cR52p0_1, CR52p0_1, AR52p0_2, cR52p0_2, CR52p0_2, rfl, rfl, rfl, HR52p0_0, HR52p0_1, HR52p0_2⟩
              · replace hc := of_decide_eq_false hc
                rw [if_neg hc] at h
                have hc47 := hc
                clear hc
                refine WP.exit ?_
                refine QP.thenE ?_
                refine QP.thenE ?_
                refine QP.blockE ?_
                refine QP.pick [2, 7, 8] ?_
                exact QP.meet ⟨_, Option.some.inj h, Ay44_f0, cy44_f0, Cy44_f0, Ay44_f1, cy44_f1, Cy44_f1, Ay44_f2, cy44_f2, Cy44_f2, rfl, rfl, rfl, Hy44_f0, Hy44_f1, Hy44_f2⟩
          · rintro _ _ _ ⟨s41, rfl, As41_f0, cs41_f0, Cs41_f0, As41_f1, cs41_f1, Cs41_f1, As41_f2, cs41_f2, Cs41_f2, rfl, rfl, rfl, Hs41_f0, Hs41_f1, Hs41_f2⟩
            clear h
            replace h := hk42
            refine QP.next ?_
            refine WP.pick [2, 7, 8] ?_
            refine WP.seq ?_
            refine WP.seqP [2, 7, 8, 10] (L' := [(2, .slice Al2 l2.length cl2), (7, .pointer (some ⟨bR3, 0, none⟩)), (8, .pointer (some ⟨bR19, 0, none⟩)), (10, .int .i64 0)]) (by kernel_rfl) ?_
            rw [Option.bind_eq_some_iff] at h
            obtain ⟨os54, h, hk55⟩ := h
            refine WP.cutQ (fun L' G' Γ' => ∃ s54 : T63, s54 = os54 ∧ ∃ (As54_f0 : Option Addr), ∃ (cs54_f0 : Nat), ∃ (Cs54_f0 : Chunk), ∃ (As54_f1 : Option Addr), ∃ (cs54_f1 : Nat), ∃ (Cs54_f1 : Chunk), ∃ (As54_f2 : Option Addr), ∃ (cs54_f2 : Nat), ∃ (Cs54_f2 : Chunk), L' = [(7, .pointer (some ⟨bR3, 0, none⟩)), (8, .pointer (some ⟨bR19, 0, none⟩))] ∧ G = G' ∧ [(bR19, .cells #[.slice As54_f0 s54.f0.length cs54_f0, .slice As54_f1 s54.f1.length cs54_f1, mpv As54_f2] 63 (0, 0))] :: Cs54_f0 :: Cs54_f1 :: Cs54_f2 :: [(bR3, .cells #[.slice As41_f0 s41.f0.length cs41_f0, .slice As41_f1 s41.f1.length cs41_f1, mpv As41_f2] 63 (0, 0))] :: Cs41_f0 :: Cs41_f1 :: Cs41_f2 :: Γ = Γ' ∧ Ow (kInt .i64) G As54_f0 cs54_f0 s54.f0 Cs54_f0 ∧ Ow (kInt .i64) G As54_f1 cs54_f1 s54.f1 Cs54_f1 ∧ MpF m61 G As54_f2 cs54_f2 s54.f2 Cs54_f2) ?_ ?_
            · clear hk55
              refine WP.block ?_
              refine WP.pick [2, 7, 8, 10] ?_
              refine WP.loopF (fun kn58 L' G' Γ' => ∃ (y56 : Int), ∃ (y57 : T63), grapevinelaw19_StateJoins_l1 l2 kn58 y56 y57 = some os54 ∧ ∃ (Ay57_f0 : Option Addr), ∃ (cy57_f0 : Nat), ∃ (Cy57_f0 : Chunk), ∃ (Ay57_f1 : Option Addr), ∃ (cy57_f1 : Nat), ∃ (Cy57_f1 : Chunk), ∃ (Ay57_f2 : Option Addr), ∃ (cy57_f2 : Nat), ∃ (Cy57_f2 : Chunk), L' = [(2, .slice Al2 l2.length cl2), (7, .pointer (some ⟨bR3, 0, none⟩)), (8, .pointer (some ⟨bR19, 0, none⟩)), (10, .int .i64 y56)] ∧ G = G' ∧ [(bR19, .cells #[.slice Ay57_f0 y57.f0.length cy57_f0, .slice Ay57_f1 y57.f1.length cy57_f1, mpv Ay57_f2] 63 (0, 0))] :: Cy57_f0 :: Cy57_f1 :: Cy57_f2 :: [(bR3, .cells #[.slice As41_f0 s41.f0.length cs41_f0, .slice As41_f1 s41.f1.length cs41_f1, mpv As41_f2] 63 (0, 0))] :: Cs41_f0 :: Cs41_f1 :: Cs41_f2 :: Γ = Γ' ∧ Ow (kInt .i64) G Ay57_f0 cy57_f0 y57.f0 Cy57_f0 ∧ Ow (kInt .i64) G Ay57_f1 cy57_f1 y57.f1 Cy57_f1 ∧ MpF m61 G Ay57_f2 cy57_f2 y57.f2 Cy57_f2) ?_ k ⟨0, x20, h, AR19_0, cR19_0, CR19_0, AR19_1, cR19_1, CR19_1, AR19_2, cR19_2, CR19_2, rfl, rfl, rfl, HR19_0, HR19_1, HR19_2⟩
              clear h
              rintro kn59 _ _ _ ⟨y56, y57, h, Ay57_f0, cy57_f0, Cy57_f0, Ay57_f1, cy57_f1, Cy57_f1, Ay57_f2, cy57_f2, Cy57_f2, rfl, rfl, rfl, Hy57_f0, Hy57_f1, Hy57_f2⟩
              cases kn59 with
              | zero => exact absurd h (by simp [grapevinelaw19_StateJoins_l1])
              | succ kn59 =>
                simp only [grapevinelaw19_StateJoins_l1] at h
                refine WP.seq ?_
                refine WP.seqP [2, 7, 8, 10, 49] (L' := [(2, .slice Al2 l2.length cl2), (7, .pointer (some ⟨bR3, 0, none⟩)), (8, .pointer (some ⟨bR19, 0, none⟩)), (10, .int .i64 y56), (49, .bool (decide (y56 < (l2.length : Int))))]) (by kernel_rfl) ?_
                refine WP.cond (b := decide (y56 < (l2.length : Int))) (by kernel_rfl) (fun hc => ?_) (fun hc => ?_)
                · replace hc := of_decide_eq_true hc
                  rw [if_pos hc] at h
                  have hc60 := hc
                  clear hc
                  refine WP.skip ?_
                  refine QP.next ?_
                  refine WP.pick [2, 7, 8, 10] ?_
                  refine WP.seq ?_
                  refine WP.block ?_
                  refine WP.region ?_
                  refine WL.pure 0 3 [2, 7, 8, 10, 52, 53, 54] (L' := [(2, .slice Al2 l2.length cl2), (7, .pointer (some ⟨bR3, 0, none⟩)), (8, .pointer (some ⟨bR19, 0, none⟩)), (10, .int .i64 y56), (52, .pointer (some ⟨bR19, 0, none⟩)), (53, .slice Al2 l2.length cl2), (54, .int .i64 y56)]) (by kernel_rfl) (by decide) ?_
                  by_cases hb61 : 0 ≤ y56 ∧ y56 < (l2.length : Int)
                  case neg => rw [if_neg hb61] at h; cases h
                  rw [if_pos hb61] at h
                  refine WL.tell (op := .indexAddr 22 (.tmp 53) (.tmp 54)) (ty := 0) (d := some 55) (g := none) (by kernel_rfl) (by kernel_rfl) (by kernel_rfl) (Tells.indexAddr (A := Al2) (n := l2.length) (c := cl2) (k := .i64) (j := y56) (by kernel_rfl) (by kernel_rfl) (Hl2.isSome hb61.1 hb61.2) hb61.1 hb61.2 sl22) ?_
                  refine WL.tellE (op := .load 36 (.tmp 55)) (ty := 36) (d := some 56) (g := none) (by kernel_rfl) (by kernel_rfl) (by kernel_rfl) (Hl2.load (agg := true) hb61.1 hb61.2 z36 ag36 (fun h => by cases h) (by kernel_rfl)) ?_
                  rintro _ ⟨_, _, rfl, rfl, ⟨_, _, rfl, rfl, ⟨_, _, rfl, rfl, ⟨_, _, rfl, rfl, ⟨_, _, rfl, rfl, ⟨_, _, rfl, rfl, ⟨_, _, rfl, rfl, ⟨_, _, rfl, rfl, ⟨Ae62, ce62, rfl, He62⟩⟩⟩⟩⟩⟩⟩⟩⟩
                  replace He62 : Rd (kInt .i64) G Ae62 ce62 ((l2.getD y56.toNat z36).f8) := He62
                  rw [Option.bind_eq_some_iff] at h
                  obtain ⟨t63, ht64, h⟩ := h
                  refine WL.op (op := .call { callee := (.value (.func 18)), args := #[(.tmp 52), (.tmp 56)], argTypes := #[23, 36] }) (ty := 0) (d := some 57) (g := none) (by kernel_rfl) (by kernel_rfl) (by kernel_rfl) (Does.call (f := 18) (args := [.pointer (some ⟨bR19, 0, none⟩), .agg #[.int .i64 ((l2.getD y56.toNat z36).f0), .int .i64 ((l2.getD y56.toNat z36).f1), .int .i64 ((l2.getD y56.toNat z36).f2), .int .i64 ((l2.getD y56.toNat z36).f3), .int .i64 ((l2.getD y56.toNat z36).f4), .int .i64 ((l2.getD y56.toNat z36).f5), .int .i64 ((l2.getD y56.toNat z36).f6), .string ((l2.getD y56.toNat z36).f7), .slice Ae62 ((l2.getD y56.toNat z36).f8).length ce62]]) (by kernel_rfl) (fun W hI => (grapevinelaw19_play_calls HT kn59 y57 (l2.getD y56.toNat z36) bR19 Ay57_f0 cy57_f0 Cy57_f0 Hy57_f0 Ay57_f1 cy57_f1 Cy57_f1 Hy57_f1 Ay57_f2 cy57_f2 Cy57_f2 Hy57_f2 Ae62 ce62 He62 t63 ht64 hI))) ?_
                  rintro _ _ _ ⟨AR65p0_0, cR65p0_0, CR65p0_0, AR65p0_1, cR65p0_1, CR65p0_1, AR65p0_2, cR65p0_2, CR65p0_2, rfl, HR65p0_0, HR65p0_1, HR65p0_2, rfl, rfl⟩
                  refine WL.rest 6 [2, 7, 8, 10] (L' := [(2, .slice Al2 l2.length cl2), (7, .pointer (some ⟨bR3, 0, none⟩)), (8, .pointer (some ⟨bR19, 0, none⟩)), (10, .int .i64 y56)]) (by kernel_rfl) ?_
                  refine QP.blockN ?_
                  refine QP.next ?_
                  refine WP.pick [2, 7, 8, 10] ?_
                  refine WP.regionP [2, 7, 8, 10] (L' := [(2, .slice Al2 l2.length cl2), (7, .pointer (some ⟨bR3, 0, none⟩)), (8, .pointer (some ⟨bR19, 0, none⟩)), (10, .int .i64 (IntKind.i64.wrap (y56 + 1)))]) (by kernel_rfl) ?_
                  refine QP.pick [2, 7, 8, 10] ?_
                  exact QP.meet ⟨kn59, Nat.lt_succ_self _, (IntKind.i64.wrap (y56 + 1)), t63, h, AR65p0_0, cR65p0_0, CR65p0_0, AR65p0_1, cR65p0_1, CR65p0_1, AR65p0_2, cR65p0_2, CR65p0_2, rfl, rfl, rfl, HR65p0_0, HR65p0_1, HR65p0_2⟩
                · replace hc := of_decide_eq_false hc
                  rw [if_neg hc] at h
                  have hc60 := hc
                  clear hc
                  refine WP.exit ?_
                  refine QP.thenE ?_
                  refine QP.thenE ?_
                  refine QP.blockE ?_
                  refine QP.pick [7, 8] ?_
                  exact QP.meet ⟨_, Option.some.inj h, Ay57_f0, cy57_f0, Cy57_f0, Ay57_f1, cy57_f1, Cy57_f1, Ay57_f2, cy57_f2, Cy57_f2, rfl, rfl, rfl, Hy57_f0, Hy57_f1, Hy57_f2⟩
            · rintro _ _ _ ⟨s54, rfl, As54_f0, cs54_f0, Cs54_f0, As54_f1, cs54_f1, Cs54_f1, As54_f2, cs54_f2, Cs54_f2, rfl, rfl, rfl, Hs54_f0, Hs54_f1, Hs54_f2⟩
              clear h
              replace h := hk55
              refine QP.next ?_
              refine WP.pick [7, 8] ?_
              refine WP.seqR ?_
              refine WL.pure 0 2 [7, 8, 58, 59] (L' := [(7, .pointer (some ⟨bR3, 0, none⟩)), (8, .pointer (some ⟨bR19, 0, none⟩)), (58, .pointer (some ⟨bR3, 0, none⟩)), (59, .pointer (some ⟨bR19, 0, none⟩))]) (by kernel_rfl) (by decide) ?_
              refine WL.op (op := .buildSlice 52 2 #[(0, (.tmp 58)), (1, (.tmp 59))]) (ty := 52) (d := some 60) (g := none) (by kernel_rfl) (by kernel_rfl) (by kernel_rfl) (Does.new (o := .cells #[.pointer (some ⟨bR3, 0, none⟩), .pointer (some ⟨bR19, 0, none⟩)] 23 (0, 0)) (v := fun r => .slice (some ⟨r, 0, none⟩) 2 2) (fun r => by kernel_rfl)) ?_
              rintro _ _ _ ⟨b67, rfl, rfl, rfl⟩
              refine WL.reperm (Γ' := [(b67, .cells #[.pointer (some ⟨bR3, 0, none⟩), .pointer (some ⟨bR19, 0, none⟩)] 23 (0, 0))] :: [(bR3, .cells #[.slice As41_f0 s41.f0.length cs41_f0, .slice As41_f1 s41.f1.length cs41_f1, mpv As41_f2] 63 (0, 0))] :: Cs41_f0 :: Cs41_f1 :: Cs41_f2 :: [(bR19, .cells #[.slice As54_f0 s54.f0.length cs54_f0, .slice As54_f1 s54.f1.length cs54_f1, mpv As54_f2] 63 (0, 0))] :: Cs54_f0 :: Cs54_f1 :: Cs54_f2 :: Γ) (perm_sel [0, 5, 6, 7, 8, 1, 2, 3, 4] (by kernel_rfl) rfl) ?_
              rw [Option.bind_eq_some_iff] at h
              obtain ⟨t68, ht69, h⟩ := h
              refine WL.op (op := .call { callee := (.value (.func 24)), args := #[(.tmp 60)], argTypes := #[52] }) (ty := 23) (d := some 61) (g := none) (by kernel_rfl) (by kernel_rfl) (by kernel_rfl) (Does.call (f := 24) (args := [.slice (some ⟨b67, 0, none⟩) 2 2]) (by kernel_rfl) (fun W hI => (state_Join_calls k s41 s54 b67 bR3 As41_f0 cs41_f0 Cs41_f0 Hs41_f0 As41_f1 cs41_f1 Cs41_f1 Hs41_f1 As41_f2 cs41_f2 Cs41_f2 Hs41_f2 bR19 As54_f0 cs54_f0 Cs54_f0 Hs54_f0 As54_f1 cs54_f1 Cs54_f1 Hs54_f1 As54_f2 cs54_f2 Cs54_f2 Hs54_f2 t68 ht69 hI))) ?_
              rintro _ _ _ (⟨hx, rfl, rfl, rfl⟩ | ⟨x71, hx, bR70, AR70_0, cR70_0, CR70_0, AR70_1, cR70_1, CR70_1, AR70_2, cR70_2, CR70_2, rfl, HR70_0, HR70_1, HR70_2, rfl, rfl⟩)
              · rw [hx] at h
                rw [Option.elim_none] at h
                clear hx
                refine WL.restQ 4 [7, 8, 11] (L' := [(7, .pointer (some ⟨bR3, 0, none⟩)), (8, .pointer (some ⟨bR19, 0, none⟩)), (11, .pointer none)]) (by kernel_rfl) ?_
                refine WP.dropAt 0 ?_
                refine WP.seq ?_
                refine WP.seqP [7, 8, 11, 92] (L' := [(7, .pointer (some ⟨bR3, 0, none⟩)), (8, .pointer (some ⟨bR19, 0, none⟩)), (11, .pointer none), (92, .bool true)]) (by kernel_rfl) ?_
                refine WP.yes (by kernel_rfl) ?_
                refine WP.seqP [6] (L' := [(6, .bool false)]) (by kernel_rfl) ?_
                refine WP.dropAt 7 ?_
                refine WP.dropAt 6 ?_
                refine WP.dropAt 5 ?_
                refine WP.dropAt 4 ?_
                refine WP.dropAt 3 ?_
                refine WP.dropAt 2 ?_
                refine WP.dropAt 1 ?_
                refine WP.dropAt 0 ?_
                refine WP.ret ?_
                refine QP.thenR ?_
                obtain rfl := Option.some.inj h
                exact QP.returned [6] [.bool false] _ (by kernel_rfl) (by kernel_rfl) (by kernel_rfl) (fun W hI => ⟨_, _, _, rfl, ⟨rfl, rfl, rfl⟩, hI⟩)
              · rw [hx] at h
                rw [Option.elim_some] at h
                clear hx
                refine WL.restQ 4 [7, 8, 11] (L' := [(7, .pointer (some ⟨bR3, 0, none⟩)), (8, .pointer (some ⟨bR19, 0, none⟩)), (11, .pointer (some ⟨bR70, 0, none⟩))]) (by kernel_rfl) ?_
                refine WP.dropAt 4 ?_
                refine WP.seq ?_
                rw [Option.bind_eq_some_iff] at h
                obtain ⟨os72, h, hk73⟩ := h
                refine WP.cut (fun L' G' Γ' => ∃ s72 : Bool, s72 = os72 ∧ L' = [(7, .pointer (some ⟨bR3, 0, none⟩)), (8, .pointer (some ⟨bR19, 0, none⟩)), (11, .pointer (some ⟨bR70, 0, none⟩)), (92, .bool s72)] ∧ G = G' ∧ [(bR70, .cells #[.slice AR70_0 x71.f0.length cR70_0, .slice AR70_1 x71.f1.length cR70_1, mpv AR70_2] 63 (0, 0))] :: CR70_0 :: CR70_1 :: CR70_2 :: [(bR3, .cells #[.slice As41_f0 s41.f0.length cs41_f0, .slice As41_f1 s41.f1.length cs41_f1, mpv As41_f2] 63 (0, 0))] :: Cs41_f0 :: Cs41_f1 :: Cs41_f2 :: [(bR19, .cells #[.slice As54_f0 s54.f0.length cs54_f0, .slice As54_f1 s54.f1.length cs54_f1, mpv As54_f2] 63 (0, 0))] :: Cs54_f0 :: Cs54_f1 :: Cs54_f2 :: Γ = Γ') ?_ ?_
                · clear hk73
                  refine WP.region ?_
                  refine WL.pure 0 4 [7, 8, 11, 64, 65] (L' := [(7, .pointer (some ⟨bR3, 0, none⟩)), (8, .pointer (some ⟨bR19, 0, none⟩)), (11, .pointer (some ⟨bR70, 0, none⟩)), (64, .bool false), (65, .pointer (some ⟨bR70, 0, none⟩))]) (by kernel_rfl) (by decide) ?_
                  rw [Option.bind_eq_some_iff] at h
                  obtain ⟨t74, ht75, h⟩ := h
                  refine WL.op (op := .call { callee := (.value (.func 17)), args := #[(.tmp 65)], argTypes := #[23] }) (ty := 4) (d := some 66) (g := some (2, false)) (by kernel_rfl) (by kernel_rfl) (by kernel_rfl) (Does.call (f := 17) (args := [.pointer (some ⟨bR70, 0, none⟩)]) (by kernel_rfl) (fun W hI => (grapevinelaw19_whole_calls k x71 bR70 AR70_0 cR70_0 CR70_0 HR70_0 AR70_1 cR70_1 CR70_1 HR70_1 AR70_2 cR70_2 CR70_2 HR70_2 t74 ht75 hI))) ?_
                  rintro _ _ _ ⟨rfl, rfl, rfl⟩
                  refine WL.pure 5 8 [7, 8, 11, 69] (L' := [(7, .pointer (some ⟨bR3, 0, none⟩)), (8, .pointer (some ⟨bR19, 0, none⟩)), (11, .pointer (some ⟨bR70, 0, none⟩)), (69, .bool (!t74))]) (by kernel_rfl) (by decide) ?_
                  refine WL.split 69 (b := (!t74)) (by kernel_rfl) (fun hc => ?_) (fun hc => ?_)
                  · replace hc := hc
                    rw [if_pos hc] at h
                    have hc78 := hc
                    clear hc
                    refine WL.rest 8 [7, 8, 11, 92] (L' := [(7, .pointer (some ⟨bR3, 0, none⟩)), (8, .pointer (some ⟨bR19, 0, none⟩)), (11, .pointer (some ⟨bR70, 0, none⟩)), (92, .bool true)]) (by kernel_rfl) ?_
                    refine QP.pick [7, 8, 11, 92] ?_
                    exact QP.meet ⟨_, Option.some.inj h, rfl, rfl, rfl⟩
                  · replace hc := (Bool.eq_false_iff.1 hc)
                    rw [if_neg hc] at h
                    have hc78 := hc
                    clear hc
                    refine WL.pure 8 12 [7, 8, 11, 69, 70, 71, 72, 73] (L' := [(7, .pointer (some ⟨bR3, 0, none⟩)), (8, .pointer (some ⟨bR19, 0, none⟩)), (11, .pointer (some ⟨bR70, 0, none⟩)), (69, .bool false), (70, .pointer (some ⟨bR70, 0, none⟩)), (71, .pointer (some ⟨bR19, 0, none⟩)), (72, .pointer (some ⟨bR3, 0, none⟩)), (73, .pointer (some ⟨bR19, 0, none⟩))]) (by kernel_rfl) (by decide) ?_
                    refine WL.op (op := .buildSlice 52 3 #[(0, (.tmp 71)), (1, (.tmp 72)), (2, (.tmp 73))]) (ty := 52) (d := some 74) (g := some (7, false)) (by kernel_rfl) (by kernel_rfl) (by kernel_rfl) (Does.new (o := .cells #[.pointer (some ⟨bR19, 0, none⟩), .pointer (some ⟨bR3, 0, none⟩), .pointer (some ⟨bR19, 0, none⟩)] 23 (0, 0)) (v := fun r => .slice (some ⟨r, 0, none⟩) 3 3) (fun r => by kernel_rfl)) ?_
                    rintro _ _ _ ⟨b79, rfl, rfl, rfl⟩
                    refine WL.reperm (Γ' := [(b79, .cells #[.pointer (some ⟨bR19, 0, none⟩), .pointer (some ⟨bR3, 0, none⟩), .pointer (some ⟨bR19, 0, none⟩)] 23 (0, 0))] :: [(bR19, .cells #[.slice As54_f0 s54.f0.length cs54_f0, .slice As54_f1 s54.f1.length cs54_f1, mpv As54_f2] 63 (0, 0))] :: Cs54_f0 :: Cs54_f1 :: Cs54_f2 :: [(bR3, .cells #[.slice As41_f0 s41.f0.length cs41_f0, .slice As41_f1 s41.f1.length cs41_f1, mpv As41_f2] 63 (0, 0))] :: Cs41_f0 :: Cs41_f1 :: Cs41_f2 :: [(bR70, .cells #[.slice AR70_0 x71.f0.length cR70_0, .slice AR70_1 x71.f1.length cR70_1, mpv AR70_2] 63 (0, 0))] :: CR70_0 :: CR70_1 :: CR70_2 :: Γ) (perm_sel [0, 9, 10, 11, 12, 5, 6, 7, 8, 1, 2, 3, 4] (by kernel_rfl) rfl) ?_
                    rw [Option.bind_eq_some_iff] at h
                    obtain ⟨t80, ht81, h⟩ := h
                    refine WL.op (op := .call { callee := (.value (.func 24)), args := #[(.tmp 74)], argTypes := #[52] }) (ty := 23) (d := some 75) (g := some (7, false)) (by kernel_rfl) (by kernel_rfl) (by kernel_rfl) (Does.call (f := 24) (args := [.slice (some ⟨b79, 0, none⟩) 3 3]) (by kernel_rfl) (fun W hI => (state_Join_40_calls k s54 s41 b79 bR19 As54_f0 cs54_f0 Cs54_f0 Hs54_f0 As54_f1 cs54_f1 Cs54_f1 Hs54_f1 As54_f2 cs54_f2 Cs54_f2 Hs54_f2 bR3 As41_f0 cs41_f0 Cs41_f0 Hs41_f0 As41_f1 cs41_f1 Cs41_f1 Hs41_f1 As41_f2 cs41_f2 Cs41_f2 Hs41_f2 t80 ht81 hI))) ?_
                    rintro _ _ _ (⟨hx, rfl, rfl, rfl⟩ | ⟨x83, hx, bR82, AR82_0, cR82_0, CR82_0, AR82_1, cR82_1, CR82_1, AR82_2, cR82_2, CR82_2, rfl, HR82_0, HR82_1, HR82_2, rfl, rfl⟩)
                    · rw [hx] at h
                      rw [Option.elim_none] at h
                      clear hx
                      refine WL.reperm (Γ' := [(bR70, .cells #[.slice AR70_0 x71.f0.length cR70_0, .slice AR70_1 x71.f1.length cR70_1, mpv AR70_2] 63 (0, 0))] :: CR70_0 :: CR70_1 :: CR70_2 :: [(b79, .cells #[.pointer (some ⟨bR19, 0, none⟩), .pointer (some ⟨bR3, 0, none⟩), .pointer (some ⟨bR19, 0, none⟩)] 23 (0, 0))] :: [(bR19, .cells #[.slice As54_f0 s54.f0.length cs54_f0, .slice As54_f1 s54.f1.length cs54_f1, mpv As54_f2] 63 (0, 0))] :: Cs54_f0 :: Cs54_f1 :: Cs54_f2 :: [(bR3, .cells #[.slice As41_f0 s41.f0.length cs41_f0, .slice As41_f1 s41.f1.length cs41_f1, mpv As41_f2] 63 (0, 0))] :: Cs41_f0 :: Cs41_f1 :: Cs41_f2 :: Γ) (perm_sel [9, 10, 11, 12, 0, 1, 2, 3, 4, 5, 6, 7, 8] (by kernel_rfl) rfl) ?_
                      rw [Option.bind_eq_some_iff] at h
                      obtain ⟨t84, ht85, h⟩ := h
                      refine WL.op (op := .call { callee := (.value (.func 25)), args := #[(.tmp 70), (.tmp 75)], argTypes := #[23, 23] }) (ty := 4) (d := some 76) (g := some (7, false)) (by kernel_rfl) (by kernel_rfl) (by kernel_rfl) (Does.call (f := 25) (args := [.pointer (some ⟨bR70, 0, none⟩), .pointer none]) (by kernel_rfl) (fun W hI => (state_Same_36_calls x71 bR70 AR70_0 cR70_0 CR70_0 HR70_0 AR70_1 cR70_1 CR70_1 HR70_1 AR70_2 cR70_2 CR70_2 HR70_2 t84 ht85 hI))) ?_
                      rintro _ _ _ ⟨rfl, rfl, rfl⟩
                      refine WL.pure 15 18 [7, 8, 11, 79] (L' := [(7, .pointer (some ⟨bR3, 0, none⟩)), (8, .pointer (some ⟨bR19, 0, none⟩)), (11, .pointer (some ⟨bR70, 0, none⟩)), (79, .bool (!t84))]) (by kernel_rfl) (by decide) ?_
                      refine WL.split 79 (b := (!t84)) (by kernel_rfl) (fun hc => ?_) (fun hc => ?_)
                      · replace hc := hc
                        rw [if_pos hc] at h
                        have hc88 := hc
                        clear hc
                        refine WL.rest 18 [7, 8, 11, 92] (L' := [(7, .pointer (some ⟨bR3, 0, none⟩)), (8, .pointer (some ⟨bR19, 0, none⟩)), (11, .pointer (some ⟨bR70, 0, none⟩)), (92, .bool true)]) (by kernel_rfl) ?_
                        refine QP.dropAt 4 ?_
                        refine QP.reperm (Γ' := [(bR70, .cells #[.slice AR70_0 x71.f0.length cR70_0, .slice AR70_1 x71.f1.length cR70_1, mpv AR70_2] 63 (0, 0))] :: CR70_0 :: CR70_1 :: CR70_2 :: [(bR3, .cells #[.slice As41_f0 s41.f0.length cs41_f0, .slice As41_f1 s41.f1.length cs41_f1, mpv As41_f2] 63 (0, 0))] :: Cs41_f0 :: Cs41_f1 :: Cs41_f2 :: [(bR19, .cells #[.slice As54_f0 s54.f0.length cs54_f0, .slice As54_f1 s54.f1.length cs54_f1, mpv As54_f2] 63 (0, 0))] :: Cs54_f0 :: Cs54_f1 :: Cs54_f2 :: Γ) (perm_sel [0, 1, 2, 3, 8, 9, 10, 11, 4, 5, 6, 7] (by kernel_rfl) rfl) ?_
                        refine QP.pick [7, 8, 11, 92] ?_
                        exact QP.meet ⟨_, Option.some.inj h, rfl, rfl, rfl⟩
                      · replace hc := (Bool.eq_false_iff.1 hc)
                        rw [if_neg hc] at h
                        have hc88 := hc
                        clear hc
                        refine WL.pure 18 19 [7, 8, 11, 79, 80] (L' := [(7, .pointer (some ⟨bR3, 0, none⟩)), (8, .pointer (some ⟨bR19, 0, none⟩)), (11, .pointer (some ⟨bR70, 0, none⟩)), (79, .bool false), (80, .pointer (some ⟨bR3, 0, none⟩))]) (by kernel_rfl) (by decide) ?_
                        refine WL.op (op := .buildSlice 52 1 #[(0, (.tmp 80))]) (ty := 52) (d := some 81) (g := some (17, false)) (by kernel_rfl) (by kernel_rfl) (by kernel_rfl) (Does.new (o := .cells #[.pointer (some ⟨bR3, 0, none⟩)] 23 (0, 0)) (v := fun r => .slice (some ⟨r, 0, none⟩) 1 1) (fun r => by kernel_rfl)) ?_
                        rintro _ _ _ ⟨b89, rfl, rfl, rfl⟩
                        refine WL.reperm (Γ' := [(b89, .cells #[.pointer (some ⟨bR3, 0, none⟩)] 23 (0, 0))] :: [(bR3, .cells #[.slice As41_f0 s41.f0.length cs41_f0, .slice As41_f1 s41.f1.length cs41_f1, mpv As41_f2] 63 (0, 0))] :: Cs41_f0 :: Cs41_f1 :: Cs41_f2 :: [(bR70, .cells #[.slice AR70_0 x71.f0.length cR70_0, .slice AR70_1 x71.f1.length cR70_1, mpv AR70_2] 63 (0, 0))] :: CR70_0 :: CR70_1 :: CR70_2 :: [(b79, .cells #[.pointer (some ⟨bR19, 0, none⟩), .pointer (some ⟨bR3, 0, none⟩), .pointer (some ⟨bR19, 0, none⟩)] 23 (0, 0))] :: [(bR19, .cells #[.slice As54_f0 s54.f0.length cs54_f0, .slice As54_f1 s54.f1.length cs54_f1, mpv As54_f2] 63 (0, 0))] :: Cs54_f0 :: Cs54_f1 :: Cs54_f2 :: Γ) (perm_sel [0, 10, 11, 12, 13, 1, 2, 3, 4, 5, 6, 7, 8, 9] (by kernel_rfl) rfl) ?_
                        rw [Option.bind_eq_some_iff] at h
                        obtain ⟨t90, ht91, h⟩ := h
                        refine WL.op (op := .call { callee := (.value (.func 24)), args := #[(.tmp 81)], argTypes := #[52] }) (ty := 23) (d := some 82) (g := some (17, false)) (by kernel_rfl) (by kernel_rfl) (by kernel_rfl) (Does.call (f := 24) (args := [.slice (some ⟨b89, 0, none⟩) 1 1]) (by kernel_rfl) (fun W hI => (state_Join_41_calls s41 b89 bR3 As41_f0 cs41_f0 Cs41_f0 Hs41_f0 As41_f1 cs41_f1 Cs41_f1 Hs41_f1 As41_f2 cs41_f2 Cs41_f2 Hs41_f2 t90 ht91 hI))) ?_
                        rintro _ _ _ ⟨bR92, AR92_0, cR92_0, CR92_0, AR92_1, cR92_1, CR92_1, AR92_2, cR92_2, CR92_2, rfl, HR92_0, HR92_1, HR92_2, rfl, rfl⟩
                        refine WL.pure 21 22 [7, 8, 11, 79, 82, 83] (L' := [(7, .pointer (some ⟨bR3, 0, none⟩)), (8, .pointer (some ⟨bR19, 0, none⟩)), (11, .pointer (some ⟨bR70, 0, none⟩)), (79, .bool false), (82, .pointer (some ⟨bR92, 0, none⟩)), (83, .pointer (some ⟨bR3, 0, none⟩))]) (by kernel_rfl) (by decide) ?_
                        refine WL.reperm (Γ' := [(bR92, .cells #[.slice AR92_0 t90.f0.length cR92_0, .slice AR92_1 t90.f1.length cR92_1, mpv AR92_2] 63 (0, 0))] :: CR92_0 :: CR92_1 :: CR92_2 :: [(bR3, .cells #[.slice As41_f0 s41.f0.length cs41_f0, .slice As41_f1 s41.f1.length cs41_f1, mpv As41_f2] 63 (0, 0))] :: Cs41_f0 :: Cs41_f1 :: Cs41_f2 :: [(b89, .cells #[.pointer (some ⟨bR3, 0, none⟩)] 23 (0, 0))] :: [(bR70, .cells #[.slice AR70_0 x71.f0.length cR70_0, .slice AR70_1 x71.f1.length cR70_1, mpv AR70_2] 63 (0, 0))] :: CR70_0 :: CR70_1 :: CR70_2 :: [(b79, .cells #[.pointer (some ⟨bR19, 0, none⟩), .pointer (some ⟨bR3, 0, none⟩), .pointer (some ⟨bR19, 0, none⟩)] 23 (0, 0))] :: [(bR19, .cells #[.slice As54_f0 s54.f0.length cs54_f0, .slice As54_f1 s54.f1.length cs54_f1, mpv As54_f2] 63 (0, 0))] :: Cs54_f0 :: Cs54_f1 :: Cs54_f2 :: Γ) (perm_sel [0, 1, 2, 3, 5, 6, 7, 8, 4] (by kernel_rfl) rfl) ?_
                        rw [Option.bind_eq_some_iff] at h
                        obtain ⟨t94, ht95, h⟩ := h
                        refine WL.op (op := .call { callee := (.value (.func 25)), args := #[(.tmp 82), (.tmp 83)], argTypes := #[23, 23] }) (ty := 4) (d := some 84) (g := some (17, false)) (by kernel_rfl) (by kernel_rfl) (by kernel_rfl) (Does.call (f := 25) (args := [.pointer (some ⟨bR92, 0, none⟩), .pointer (some ⟨bR3, 0, none⟩)]) (by kernel_rfl) (fun W hI => (state_Same_calls k t90 s41 bR92 AR92_0 cR92_0 CR92_0 HR92_0 AR92_1 cR92_1 CR92_1 HR92_1 AR92_2 cR92_2 CR92_2 HR92_2 bR3 As41_f0 cs41_f0 Cs41_f0 Hs41_f0 As41_f1 cs41_f1 Cs41_f1 Hs41_f1 As41_f2 cs41_f2 Cs41_f2 Hs41_f2 t94 ht95 hI))) ?_
                        rintro _ _ _ ⟨rfl, rfl, rfl⟩
                        refine WL.pure 23 26 [7, 8, 11, 87] (L' := [(7, .pointer (some ⟨bR3, 0, none⟩)), (8, .pointer (some ⟨bR19, 0, none⟩)), (11, .pointer (some ⟨bR70, 0, none⟩)), (87, .bool (!t94))]) (by kernel_rfl) (by decide) ?_
                        refine WL.split 87 (b := (!t94)) (by kernel_rfl) (fun hc => ?_) (fun hc => ?_)
                        · replace hc := hc
                          rw [if_pos hc] at h
                          have hc98 := hc
                          clear hc
                          refine WL.rest 26 [7, 8, 11, 92] (L' := [(7, .pointer (some ⟨bR3, 0, none⟩)), (8, .pointer (some ⟨bR19, 0, none⟩)), (11, .pointer (some ⟨bR70, 0, none⟩)), (92, .bool true)]) (by kernel_rfl) ?_
                          refine QP.dropAt 13 ?_
                          refine QP.dropAt 8 ?_
                          refine QP.dropAt 3 ?_
                          refine QP.dropAt 2 ?_
                          refine QP.dropAt 1 ?_
                          refine QP.dropAt 0 ?_
                          refine QP.reperm (Γ' := [(bR70, .cells #[.slice AR70_0 x71.f0.length cR70_0, .slice AR70_1 x71.f1.length cR70_1, mpv AR70_2] 63 (0, 0))] :: CR70_0 :: CR70_1 :: CR70_2 :: [(bR3, .cells #[.slice As41_f0 s41.f0.length cs41_f0, .slice As41_f1 s41.f1.length cs41_f1, mpv As41_f2] 63 (0, 0))] :: Cs41_f0 :: Cs41_f1 :: Cs41_f2 :: [(bR19, .cells #[.slice As54_f0 s54.f0.length cs54_f0, .slice As54_f1 s54.f1.length cs54_f1, mpv As54_f2] 63 (0, 0))] :: Cs54_f0 :: Cs54_f1 :: Cs54_f2 :: Γ) (perm_sel [4, 5, 6, 7, 0, 1, 2, 3] (by kernel_rfl) rfl) ?_
                          refine QP.pick [7, 8, 11, 92] ?_
                          exact QP.meet ⟨_, Option.some.inj h, rfl, rfl, rfl⟩
                        · replace hc := (Bool.eq_false_iff.1 hc)
                          rw [if_neg hc] at h
                          have hc98 := hc
                          clear hc
                          refine WL.pure 26 27 [7, 8, 11, 87, 88] (L' := [(7, .pointer (some ⟨bR3, 0, none⟩)), (8, .pointer (some ⟨bR19, 0, none⟩)), (11, .pointer (some ⟨bR70, 0, none⟩)), (87, .bool false), (88, .pointer (some ⟨bR3, 0, none⟩))]) (by kernel_rfl) (by decide) ?_
                          refine WL.op (op := .buildSlice 52 2 #[(0, (.tmp 88)), (1, (.const (.pointer none)))]) (ty := 52) (d := some 89) (g := some (25, false)) (by kernel_rfl) (by kernel_rfl) (by kernel_rfl) (Does.new (o := .cells #[.pointer (some ⟨bR3, 0, none⟩), .pointer none] 23 (0, 0)) (v := fun r => .slice (some ⟨r, 0, none⟩) 2 2) (fun r => by kernel_rfl)) ?_
                          rintro _ _ _ ⟨b99, rfl, rfl, rfl⟩
                          refine WL.reperm (Γ' := [(b99, .cells #[.pointer (some ⟨bR3, 0, none⟩), .pointer none] 23 (0, 0))] :: [(bR3, .cells #[.slice As41_f0 s41.f0.length cs41_f0, .slice As41_f1 s41.f1.length cs41_f1, mpv As41_f2] 63 (0, 0))] :: Cs41_f0 :: Cs41_f1 :: Cs41_f2 :: [(bR92, .cells #[.slice AR92_0 t90.f0.length cR92_0, .slice AR92_1 t90.f1.length cR92_1, mpv AR92_2] 63 (0, 0))] :: CR92_0 :: CR92_1 :: CR92_2 :: [(b89, .cells #[.pointer (some ⟨bR3, 0, none⟩)] 23 (0, 0))] :: [(bR70, .cells #[.slice AR70_0 x71.f0.length cR70_0, .slice AR70_1 x71.f1.length cR70_1, mpv AR70_2] 63 (0, 0))] :: CR70_0 :: CR70_1 :: CR70_2 :: [(b79, .cells #[.pointer (some ⟨bR19, 0, none⟩), .pointer (some ⟨bR3, 0, none⟩), .pointer (some ⟨bR19, 0, none⟩)] 23 (0, 0))] :: [(bR19, .cells #[.slice As54_f0 s54.f0.length cs54_f0, .slice As54_f1 s54.f1.length cs54_f1, mpv As54_f2] 63 (0, 0))] :: Cs54_f0 :: Cs54_f1 :: Cs54_f2 :: Γ) (perm_sel [0, 5, 6, 7, 8, 1, 2, 3, 4] (by kernel_rfl) rfl) ?_
                          rw [Option.bind_eq_some_iff] at h
                          obtain ⟨t100, ht101, h⟩ := h
                          refine WL.op (op := .call { callee := (.value (.func 24)), args := #[(.tmp 89)], argTypes := #[52] }) (ty := 23) (d := some 90) (g := some (25, false)) (by kernel_rfl) (by kernel_rfl) (by kernel_rfl) (Does.call (f := 24) (args := [.slice (some ⟨b99, 0, none⟩) 2 2]) (by kernel_rfl) (fun W hI => (state_Join_42_calls s41 b99 bR3 As41_f0 cs41_f0 Cs41_f0 Hs41_f0 As41_f1 cs41_f1 Cs41_f1 Hs41_f1 As41_f2 cs41_f2 Cs41_f2 Hs41_f2 t100 ht101 hI))) ?_
                          rintro _ _ _ ⟨rfl, rfl, rfl⟩
                          refine WL.rest 29 [7, 8, 11, 92] (L' := [(7, .pointer (some ⟨bR3, 0, none⟩)), (8, .pointer (some ⟨bR19, 0, none⟩)), (11, .pointer (some ⟨bR70, 0, none⟩)), (92, .bool false)]) (by kernel_rfl) ?_
                          refine QP.dropAt 14 ?_
                          refine QP.dropAt 9 ?_
                          refine QP.dropAt 8 ?_
                          refine QP.dropAt 7 ?_
                          refine QP.dropAt 6 ?_
                          refine QP.dropAt 5 ?_
                          refine QP.dropAt 0 ?_
                          refine QP.reperm (Γ' := [(bR70, .cells #[.slice AR70_0 x71.f0.length cR70_0, .slice AR70_1 x71.f1.length cR70_1, mpv AR70_2] 63 (0, 0))] :: CR70_0 :: CR70_1 :: CR70_2 :: [(bR3, .cells #[.slice As41_f0 s41.f0.length cs41_f0, .slice As41_f1 s41.f1.length cs41_f1, mpv As41_f2] 63 (0, 0))] :: Cs41_f0 :: Cs41_f1 :: Cs41_f2 :: [(bR19, .cells #[.slice As54_f0 s54.f0.length cs54_f0, .slice As54_f1 s54.f1.length cs54_f1, mpv As54_f2] 63 (0, 0))] :: Cs54_f0 :: Cs54_f1 :: Cs54_f2 :: Γ) (perm_sel [4, 5, 6, 7, 0, 1, 2, 3] (by kernel_rfl) rfl) ?_
                          refine QP.pick [7, 8, 11, 92] ?_
                          exact QP.meet ⟨_, Option.some.inj h, rfl, rfl, rfl⟩
                    · rw [hx] at h
                      rw [Option.elim_some] at h
                      clear hx
                      refine WL.reperm (Γ' := [(bR70, .cells #[.slice AR70_0 x71.f0.length cR70_0, .slice AR70_1 x71.f1.length cR70_1, mpv AR70_2] 63 (0, 0))] :: CR70_0 :: CR70_1 :: CR70_2 :: [(bR82, .cells #[.slice AR82_0 x83.f0.length cR82_0, .slice AR82_1 x83.f1.length cR82_1, mpv AR82_2] 63 (0, 0))] :: CR82_0 :: CR82_1 :: CR82_2 :: [(b79, .cells #[.pointer (some ⟨bR19, 0, none⟩), .pointer (some ⟨bR3, 0, none⟩), .pointer (some ⟨bR19, 0, none⟩)] 23 (0, 0))] :: [(bR19, .cells #[.slice As54_f0 s54.f0.length cs54_f0, .slice As54_f1 s54.f1.length cs54_f1, mpv As54_f2] 63 (0, 0))] :: Cs54_f0 :: Cs54_f1 :: Cs54_f2 :: [(bR3, .cells #[.slice As41_f0 s41.f0.length cs41_f0, .slice As41_f1 s41.f1.length cs41_f1, mpv As41_f2] 63 (0, 0))] :: Cs41_f0 :: Cs41_f1 :: Cs41_f2 :: Γ) (perm_sel [13, 14, 15, 16, 0, 1, 2, 3, 4, 5, 6, 7, 8, 9, 10, 11, 12] (by kernel_rfl) rfl) ?_
                      rw [Option.bind_eq_some_iff] at h
                      obtain ⟨t104, ht105, h⟩ := h
                      refine WL.op (op := .call { callee := (.value (.func 25)), args := #[(.tmp 70), (.tmp 75)], argTypes := #[23, 23] }) (ty := 4) (d := some 76) (g := some (7, false)) (by kernel_rfl) (by kernel_rfl) (by kernel_rfl) (Does.call (f := 25) (args := [.pointer (some ⟨bR70, 0, none⟩), .pointer (some ⟨bR82, 0, none⟩)]) (by kernel_rfl) (fun W hI => (state_Same_calls k x71 x83 bR70 AR70_0 cR70_0 CR70_0 HR70_0 AR70_1 cR70_1 CR70_1 HR70_1 AR70_2 cR70_2 CR70_2 HR70_2 bR82 AR82_0 cR82_0 CR82_0 HR82_0 AR82_1 cR82_1 CR82_1 HR82_1 AR82_2 cR82_2 CR82_2 HR82_2 t104 ht105 hI))) ?_
                      rintro _ _ _ ⟨rfl, rfl, rfl⟩
                      refine WL.pure 15 18 [7, 8, 11, 79] (L' := [(7, .pointer (some ⟨bR3, 0, none⟩)), (8, .pointer (some ⟨bR19, 0, none⟩)), (11, .pointer (some ⟨bR70, 0, none⟩)), (79, .bool (!t104))]) (by kernel_rfl) (by decide) ?_
                      refine WL.split 79 (b := (!t104)) (by kernel_rfl) (fun hc => ?_) (fun hc => ?_)
                      · replace hc := hc
                        rw [if_pos hc] at h
                        have hc108 := hc
                        clear hc
                        refine WL.rest 18 [7, 8, 11, 92] (L' := [(7, .pointer (some ⟨bR3, 0, none⟩)), (8, .pointer (some ⟨bR19, 0, none⟩)), (11, .pointer (some ⟨bR70, 0, none⟩)), (92, .bool true)]) (by kernel_rfl) ?_
                        refine QP.dropAt 8 ?_
                        refine QP.dropAt 7 ?_
                        refine QP.dropAt 6 ?_
                        refine QP.dropAt 5 ?_
                        refine QP.dropAt 4 ?_
                        refine QP.reperm (Γ' := [(bR70, .cells #[.slice AR70_0 x71.f0.length cR70_0, .slice AR70_1 x71.f1.length cR70_1, mpv AR70_2] 63 (0, 0))] :: CR70_0 :: CR70_1 :: CR70_2 :: [(bR3, .cells #[.slice As41_f0 s41.f0.length cs41_f0, .slice As41_f1 s41.f1.length cs41_f1, mpv As41_f2] 63 (0, 0))] :: Cs41_f0 :: Cs41_f1 :: Cs41_f2 :: [(bR19, .cells #[.slice As54_f0 s54.f0.length cs54_f0, .slice As54_f1 s54.f1.length cs54_f1, mpv As54_f2] 63 (0, 0))] :: Cs54_f0 :: Cs54_f1 :: Cs54_f2 :: Γ) (perm_sel [0, 1, 2, 3, 8, 9, 10, 11, 4, 5, 6, 7] (by kernel_rfl) rfl) ?_
                        refine QP.pick [7, 8, 11, 92] ?_
                        exact QP.meet ⟨_, Option.some.inj h, rfl, rfl, rfl⟩
                      · replace hc := (Bool.eq_false_iff.1 hc)
                        rw [if_neg hc] at h
                        have hc108 := hc
                        clear hc
                        refine WL.pure 18 19 [7, 8, 11, 79, 80] (L' := [(7, .pointer (some ⟨bR3, 0, none⟩)), (8, .pointer (some ⟨bR19, 0, none⟩)), (11, .pointer (some ⟨bR70, 0, none⟩)), (79, .bool false), (80, .pointer (some ⟨bR3, 0, none⟩))]) (by kernel_rfl) (by decide) ?_
                        refine WL.op (op := .buildSlice 52 1 #[(0, (.tmp 80))]) (ty := 52) (d := some 81) (g := some (17, false)) (by kernel_rfl) (by kernel_rfl) (by kernel_rfl) (Does.new (o := .cells #[.pointer (some ⟨bR3, 0, none⟩)] 23 (0, 0)) (v := fun r => .slice (some ⟨r, 0, none⟩) 1 1) (fun r => by kernel_rfl)) ?_
                        rintro _ _ _ ⟨b109, rfl, rfl, rfl⟩
                        refine WL.reperm (Γ' := [(b109, .cells #[.pointer (some ⟨bR3, 0, none⟩)] 23 (0, 0))] :: [(bR3, .cells #[.slice As41_f0 s41.f0.length cs41_f0, .slice As41_f1 s41.f1.length cs41_f1, mpv As41_f2] 63 (0, 0))] :: Cs41_f0 :: Cs41_f1 :: Cs41_f2 :: [(bR70, .cells #[.slice AR70_0 x71.f0.length cR70_0, .slice AR70_1 x71.f1.length cR70_1, mpv AR70_2] 63 (0, 0))] :: CR70_0 :: CR70_1 :: CR70_2 :: [(bR82, .cells #[.slice AR82_0 x83.f0.length cR82_0, .slice AR82_1 x83.f1.length cR82_1, mpv AR82_2] 63 (0, 0))] :: CR82_0 :: CR82_1 :: CR82_2 :: [(b79, .cells #[.pointer (some ⟨bR19, 0, none⟩), .pointer (some ⟨bR3, 0, none⟩), .pointer (some ⟨bR19, 0, none⟩)] 23 (0, 0))] :: [(bR19, .cells #[.slice As54_f0 s54.f0.length cs54_f0, .slice As54_f1 s54.f1.length cs54_f1, mpv As54_f2] 63 (0, 0))] :: Cs54_f0 :: Cs54_f1 :: Cs54_f2 :: Γ) (perm_sel [0, 14, 15, 16, 17, 1, 2, 3, 4, 5, 6, 7, 8, 9, 10, 11, 12, 13] (by kernel_rfl) rfl) ?_
                        rw [Option.bind_eq_some_iff] at h
                        obtain ⟨t110, ht111, h⟩ := h
                        refine WL.op (op := .call { callee := (.value (.func 24)), args := #[(.tmp 81)], argTypes := #[52] }) (ty := 23) (d := some 82) (g := some (17, false)) (by kernel_rfl) (by kernel_rfl) (by kernel_rfl) (Does.call (f := 24) (args := [.slice (some ⟨b109, 0, none⟩) 1 1]) (by kernel_rfl) (fun W hI => (state_Join_41_calls s41 b109 bR3 As41_f0 cs41_f0 Cs41_f0 Hs41_f0 As41_f1 cs41_f1 Cs41_f1 Hs41_f1 As41_f2 cs41_f2 Cs41_f2 Hs41_f2 t110 ht111 hI))) ?_
                        rintro _ _ _ ⟨bR112, AR112_0, cR112_0, CR112_0, AR112_1, cR112_1, CR112_1, AR112_2, cR112_2, CR112_2, rfl, HR112_0, HR112_1, HR112_2, rfl, rfl⟩
                        refine WL.pure 21 22 [7, 8, 11, 79, 82, 83] (L' := [(7, .pointer (some ⟨bR3, 0, none⟩)), (8, .pointer (some ⟨bR19, 0, none⟩)), (11, .pointer (some ⟨bR70, 0, none⟩)), (79, .bool false), (82, .pointer (some ⟨bR112, 0, none⟩)), (83, .pointer (some ⟨bR3, 0, none⟩))]) (by kernel_rfl) (by decide) ?_
                        refine WL.reperm (Γ' := [(bR112, .cells #[.slice AR112_0 t110.f0.length cR112_0, .slice AR112_1 t110.f1.length cR112_1, mpv AR112_2] 63 (0, 0))] :: CR112_0 :: CR112_1 :: CR112_2 :: [(bR3, .cells #[.slice As41_f0 s41.f0.length cs41_f0, .slice As41_f1 s41.f1.length cs41_f1, mpv As41_f2] 63 (0, 0))] :: Cs41_f0 :: Cs41_f1 :: Cs41_f2 :: [(b109, .cells #[.pointer (some ⟨bR3, 0, none⟩)] 23 (0, 0))] :: [(bR70, .cells #[.slice AR70_0 x71.f0.length cR70_0, .slice AR70_1 x71.f1.length cR70_1, mpv AR70_2] 63 (0, 0))] :: CR70_0 :: CR70_1 :: CR70_2 :: [(bR82, .cells #[.slice AR82_0 x83.f0.length cR82_0, .slice AR82_1 x83.f1.length cR82_1, mpv AR82_2] 63 (0, 0))] :: CR82_0 :: CR82_1 :: CR82_2 :: [(b79, .cells #[.pointer (some ⟨bR19, 0, none⟩), .pointer (some ⟨bR3, 0, none⟩), .pointer (some ⟨bR19, 0, none⟩)] 23 (0, 0))] :: [(bR19, .cells #[.slice As54_f0 s54.f0.length cs54_f0, .slice As54_f1 s54.f1.length cs54_f1, mpv As54_f2] 63 (0, 0))] :: Cs54_f0 :: Cs54_f1 :: Cs54_f2 :: Γ) (perm_sel [0, 1, 2, 3, 5, 6, 7, 8, 4] (by kernel_rfl) rfl) ?_
                        rw [Option.bind_eq_some_iff] at h
                        obtain ⟨t114, ht115, h⟩ := h
                        refine WL.op (op := .call { callee := (.value (.func 25)), args := #[(.tmp 82), (.tmp 83)], argTypes := #[23, 23] }) (ty := 4) (d := some 84) (g := some (17, false)) (by kernel_rfl) (by kernel_rfl) (by kernel_rfl) (Does.call (f := 25) (args := [.pointer (some ⟨bR112, 0, none⟩), .pointer (some ⟨bR3, 0, none⟩)]) (by kernel_rfl) (fun W hI => (state_Same_calls k t110 s41 bR112 AR112_0 cR112_0 CR112_0 HR112_0 AR112_1 cR112_1 CR112_1 HR112_1 AR112_2 cR112_2 CR112_2 HR112_2 bR3 As41_f0 cs41_f0 Cs41_f0 Hs41_f0 As41_f1 cs41_f1 Cs41_f1 Hs41_f1 As41_f2 cs41_f2 Cs41_f2 Hs41_f2 t114 ht115 hI))) ?_
                        rintro _ _ _ ⟨rfl, rfl, rfl⟩
                        refine WL.pure 23 26 [7, 8, 11, 87] (L' := [(7, .pointer (some ⟨bR3, 0, none⟩)), (8, .pointer (some ⟨bR19, 0, none⟩)), (11, .pointer (some ⟨bR70, 0, none⟩)), (87, .bool (!t114))]) (by kernel_rfl) (by decide) ?_
                        refine WL.split 87 (b := (!t114)) (by kernel_rfl) (fun hc => ?_) (fun hc => ?_)
                        · replace hc := hc
                          rw [if_pos hc] at h
                          have hc118 := hc
                          clear hc
                          refine WL.rest 26 [7, 8, 11, 92] (L' := [(7, .pointer (some ⟨bR3, 0, none⟩)), (8, .pointer (some ⟨bR19, 0, none⟩)), (11, .pointer (some ⟨bR70, 0, none⟩)), (92, .bool true)]) (by kernel_rfl) ?_
                          refine QP.dropAt 17 ?_
                          refine QP.dropAt 16 ?_
                          refine QP.dropAt 15 ?_
                          refine QP.dropAt 14 ?_
                          refine QP.dropAt 13 ?_
                          refine QP.dropAt 8 ?_
                          refine QP.dropAt 3 ?_
                          refine QP.dropAt 2 ?_
                          refine QP.dropAt 1 ?_
                          refine QP.dropAt 0 ?_
                          refine QP.reperm (Γ' := [(bR70, .cells #[.slice AR70_0 x71.f0.length cR70_0, .slice AR70_1 x71.f1.length cR70_1, mpv AR70_2] 63 (0, 0))] :: CR70_0 :: CR70_1 :: CR70_2 :: [(bR3, .cells #[.slice As41_f0 s41.f0.length cs41_f0, .slice As41_f1 s41.f1.length cs41_f1, mpv As41_f2] 63 (0, 0))] :: Cs41_f0 :: Cs41_f1 :: Cs41_f2 :: [(bR19, .cells #[.slice As54_f0 s54.f0.length cs54_f0, .slice As54_f1 s54.f1.length cs54_f1, mpv As54_f2] 63 (0, 0))] :: Cs54_f0 :: Cs54_f1 :: Cs54_f2 :: Γ) (perm_sel [4, 5, 6, 7, 0, 1, 2, 3] (by kernel_rfl) rfl) ?_
                          refine QP.pick [7, 8, 11, 92] ?_
                          exact QP.meet ⟨_, Option.some.inj h, rfl, rfl, rfl⟩
                        · replace hc := (Bool.eq_false_iff.1 hc)
                          rw [if_neg hc] at h
                          have hc118 := hc
                          clear hc
                          refine WL.pure 26 27 [7, 8, 11, 87, 88] (L' := [(7, .pointer (some ⟨bR3, 0, none⟩)), (8, .pointer (some ⟨bR19, 0, none⟩)), (11, .pointer (some ⟨bR70, 0, none⟩)), (87, .bool false), (88, .pointer (some ⟨bR3, 0, none⟩))]) (by kernel_rfl) (by decide) ?_
                          refine WL.op (op := .buildSlice 52 2 #[(0, (.tmp 88)), (1, (.const (.pointer none)))]) (ty := 52) (d := some 89) (g := some (25, false)) (by kernel_rfl) (by kernel_rfl) (by kernel_rfl) (Does.new (o := .cells #[.pointer (some ⟨bR3, 0, none⟩), .pointer none] 23 (0, 0)) (v := fun r => .slice (some ⟨r, 0, none⟩) 2 2) (fun r => by kernel_rfl)) ?_
                          rintro _ _ _ ⟨b119, rfl, rfl, rfl⟩
                          refine WL.reperm (Γ' := [(b119, .cells #[.pointer (some ⟨bR3, 0, none⟩), .pointer none] 23 (0, 0))] :: [(bR3, .cells #[.slice As41_f0 s41.f0.length cs41_f0, .slice As41_f1 s41.f1.length cs41_f1, mpv As41_f2] 63 (0, 0))] :: Cs41_f0 :: Cs41_f1 :: Cs41_f2 :: [(bR112, .cells #[.slice AR112_0 t110.f0.length cR112_0, .slice AR112_1 t110.f1.length cR112_1, mpv AR112_2] 63 (0, 0))] :: CR112_0 :: CR112_1 :: CR112_2 :: [(b109, .cells #[.pointer (some ⟨bR3, 0, none⟩)] 23 (0, 0))] :: [(bR70, .cells #[.slice AR70_0 x71.f0.length cR70_0, .slice AR70_1 x71.f1.length cR70_1, mpv AR70_2] 63 (0, 0))] :: CR70_0 :: CR70_1 :: CR70_2 :: [(bR82, .cells #[.slice AR82_0 x83.f0.length cR82_0, .slice AR82_1 x83.f1.length cR82_1, mpv AR82_2] 63 (0, 0))] :: CR82_0 :: CR82_1 :: CR82_2 :: [(b79, .cells #[.pointer (some ⟨bR19, 0, none⟩), .pointer (some ⟨bR3, 0, none⟩), .pointer (some ⟨bR19, 0, none⟩)] 23 (0, 0))] :: [(bR19, .cells #[.slice As54_f0 s54.f0.length cs54_f0, .slice As54_f1 s54.f1.length cs54_f1, mpv As54_f2] 63 (0, 0))] :: Cs54_f0 :: Cs54_f1 :: Cs54_f2 :: Γ) (perm_sel [0, 5, 6, 7, 8, 1, 2, 3, 4] (by kernel_rfl) rfl) ?_
                          rw [Option.bind_eq_some_iff] at h
                          obtain ⟨t120, ht121, h⟩ := h
                          refine WL.op (op := .call { callee := (.value (.func 24)), args := #[(.tmp 89)], argTypes := #[52] }) (ty := 23) (d := some 90) (g := some (25, false)) (by kernel_rfl) (by kernel_rfl) (by kernel_rfl) (Does.call (f := 24) (args := [.slice (some ⟨b119, 0, none⟩) 2 2]) (by kernel_rfl) (fun W hI => (state_Join_42_calls s41 b119 bR3 As41_f0 cs41_f0 Cs41_f0 Hs41_f0 As41_f1 cs41_f1 Cs41_f1 Hs41_f1 As41_f2 cs41_f2 Cs41_f2 Hs41_f2 t120 ht121 hI))) ?_
                          rintro _ _ _ ⟨rfl, rfl, rfl⟩
                          refine WL.rest 29 [7, 8, 11, 92] (L' := [(7, .pointer (some ⟨bR3, 0, none⟩)), (8, .pointer (some ⟨bR19, 0, none⟩)), (11, .pointer (some ⟨bR70, 0, none⟩)), (92, .bool false)]) (by kernel_rfl) ?_
                          refine QP.dropAt 18 ?_
                          refine QP.dropAt 17 ?_
                          refine QP.dropAt 16 ?_
                          refine QP.dropAt 15 ?_
                          refine QP.dropAt 14 ?_
                          refine QP.dropAt 9 ?_
                          refine QP.dropAt 8 ?_
                          refine QP.dropAt 7 ?_
                          refine QP.dropAt 6 ?_
                          refine QP.dropAt 5 ?_
                          refine QP.dropAt 0 ?_
                          refine QP.reperm (Γ' := [(bR70, .cells #[.slice AR70_0 x71.f0.length cR70_0, .slice AR70_1 x71.f1.length cR70_1, mpv AR70_2] 63 (0, 0))] :: CR70_0 :: CR70_1 :: CR70_2 :: [(bR3, .cells #[.slice As41_f0 s41.f0.length cs41_f0, .slice As41_f1 s41.f1.length cs41_f1, mpv As41_f2] 63 (0, 0))] :: Cs41_f0 :: Cs41_f1 :: Cs41_f2 :: [(bR19, .cells #[.slice As54_f0 s54.f0.length cs54_f0, .slice As54_f1 s54.f1.length cs54_f1, mpv As54_f2] 63 (0, 0))] :: Cs54_f0 :: Cs54_f1 :: Cs54_f2 :: Γ) (perm_sel [4, 5, 6, 7, 0, 1, 2, 3] (by kernel_rfl) rfl) ?_
                          refine QP.pick [7, 8, 11, 92] ?_
                          exact QP.meet ⟨_, Option.some.inj h, rfl, rfl, rfl⟩
                · rintro _ _ _ ⟨s72, rfl, rfl, rfl, rfl⟩
                  clear h
                  replace h := hk73
                  refine WP.cond (b := s72) (by kernel_rfl) (fun hc => ?_) (fun hc => ?_)
                  · replace hc := hc
                    rw [if_pos hc] at h
                    have hc124 := hc
                    clear hc
                    refine WP.seqP [6] (L' := [(6, .bool false)]) (by kernel_rfl) ?_
                    refine WP.dropAt 11 ?_
                    refine WP.dropAt 10 ?_
                    refine WP.dropAt 9 ?_
                    refine WP.dropAt 8 ?_
                    refine WP.dropAt 7 ?_
                    refine WP.dropAt 6 ?_
                    refine WP.dropAt 5 ?_
                    refine WP.dropAt 4 ?_
                    refine WP.dropAt 3 ?_
                    refine WP.dropAt 2 ?_
                    refine WP.dropAt 1 ?_
                    refine WP.dropAt 0 ?_
                    refine WP.ret ?_
                    refine QP.thenR ?_
                    obtain rfl := Option.some.inj h
                    exact QP.returned [6] [.bool false] _ (by kernel_rfl) (by kernel_rfl) (by kernel_rfl) (fun W hI => ⟨_, _, _, rfl, ⟨rfl, rfl, rfl⟩, hI⟩)
                  · replace hc := (Bool.eq_false_iff.1 hc)
                    rw [if_neg hc] at h
                    have hc124 := hc
                    clear hc
                    refine WP.skip ?_
                    refine QP.next ?_
                    refine WP.pick [7, 8, 11] ?_
                    refine WP.seqR ?_
                    refine WL.pure 0 1 [8, 11, 93] (L' := [(8, .pointer (some ⟨bR19, 0, none⟩)), (11, .pointer (some ⟨bR70, 0, none⟩)), (93, .pointer (some ⟨bR3, 0, none⟩))]) (by kernel_rfl) (by decide) ?_
                    refine WL.reperm (Γ' := [(bR3, .cells #[.slice As41_f0 s41.f0.length cs41_f0, .slice As41_f1 s41.f1.length cs41_f1, mpv As41_f2] 63 (0, 0))] :: Cs41_f0 :: Cs41_f1 :: Cs41_f2 :: [(bR70, .cells #[.slice AR70_0 x71.f0.length cR70_0, .slice AR70_1 x71.f1.length cR70_1, mpv AR70_2] 63 (0, 0))] :: CR70_0 :: CR70_1 :: CR70_2 :: [(bR19, .cells #[.slice As54_f0 s54.f0.length cs54_f0, .slice As54_f1 s54.f1.length cs54_f1, mpv As54_f2] 63 (0, 0))] :: Cs54_f0 :: Cs54_f1 :: Cs54_f2 :: Γ) (perm_sel [4, 5, 6, 7, 0, 1, 2, 3] (by kernel_rfl) rfl) ?_
                    rw [Option.bind_eq_some_iff] at h
                    obtain ⟨t125, ht126, h⟩ := h
                    refine WL.op (op := .call { callee := (.value (.func 26)), args := #[(.tmp 93)], argTypes := #[23] }) (ty := 23) (d := some 94) (g := none) (by kernel_rfl) (by kernel_rfl) (by kernel_rfl) (Does.call (f := 26) (args := [.pointer (some ⟨bR3, 0, none⟩)]) (by kernel_rfl) (fun W hI => (state_State_Copy_calls s41 bR3 As41_f0 cs41_f0 Cs41_f0 Hs41_f0 As41_f1 cs41_f1 Cs41_f1 Hs41_f1 As41_f2 cs41_f2 Cs41_f2 Hs41_f2 t125 ht126 hI))) ?_
                    rintro _ _ _ ⟨bR127, AR127_0, cR127_0, CR127_0, AR127_1, cR127_1, CR127_1, AR127_2, cR127_2, CR127_2, rfl, HR127_0, HR127_1, HR127_2, rfl, rfl⟩
                    refine WL.restQ 2 [8, 11, 12] (L' := [(8, .pointer (some ⟨bR19, 0, none⟩)), (11, .pointer (some ⟨bR70, 0, none⟩)), (12, .pointer (some ⟨bR127, 0, none⟩))]) (by kernel_rfl) ?_
                    refine WP.dropAt 7 ?_
                    refine WP.dropAt 6 ?_
                    refine WP.dropAt 5 ?_
                    refine WP.dropAt 4 ?_
                    refine WP.seqR ?_
                    refine WL.pure 0 2 [8, 11, 12, 95, 96] (L' := [(8, .pointer (some ⟨bR19, 0, none⟩)), (11, .pointer (some ⟨bR70, 0, none⟩)), (12, .pointer (some ⟨bR127, 0, none⟩)), (95, .pointer (some ⟨bR127, 0, none⟩)), (96, .pointer (some ⟨bR19, 0, none⟩))]) (by kernel_rfl) (by decide) ?_
                    refine WL.reperm (Γ' := [(bR19, .cells #[.slice As54_f0 s54.f0.length cs54_f0, .slice As54_f1 s54.f1.length cs54_f1, mpv As54_f2] 63 (0, 0))] :: Cs54_f0 :: Cs54_f1 :: Cs54_f2 :: [(bR127, .cells #[.slice AR127_0 t125.f0.length cR127_0, .slice AR127_1 t125.f1.length cR127_1, mpv AR127_2] 63 (0, 0))] :: CR127_0 :: CR127_1 :: CR127_2 :: [(bR70, .cells #[.slice AR70_0 x71.f0.length cR70_0, .slice AR70_1 x71.f1.length cR70_1, mpv AR70_2] 63 (0, 0))] :: CR70_0 :: CR70_1 :: CR70_2 :: Γ) (perm_sel [8, 9, 10, 11, 0, 1, 2, 3, 4, 5, 6, 7] (by kernel_rfl) rfl) ?_
                    rw [Option.bind_eq_some_iff] at h
                    obtain ⟨t129, ht130, h⟩ := h
                    refine WL.op (op := .call { callee := (.value (.func 12)), args := #[(.tmp 96)], argTypes := #[23] }) (ty := 27) (d := some 97) (g := none) (by kernel_rfl) (by kernel_rfl) (by kernel_rfl) (Does.call (f := 12) (args := [.pointer (some ⟨bR19, 0, none⟩)]) (by kernel_rfl) (fun W hI => (state_State_W_calls s54 bR19 As54_f0 cs54_f0 Cs54_f0 Hs54_f0 As54_f1 cs54_f1 Cs54_f1 Hs54_f1 As54_f2 cs54_f2 Cs54_f2 Hs54_f2 t129 ht130 hI))) ?_
                    rintro _ _ _ ⟨AR131, cR131, CR131, rfl, HR131, rfl, rfl⟩
                    refine WL.reperm (Γ' := [(bR127, .cells #[.slice AR127_0 t125.f0.length cR127_0, .slice AR127_1 t125.f1.length cR127_1, mpv AR127_2] 63 (0, 0))] :: CR127_0 :: CR127_1 :: CR127_2 :: CR131 :: [(bR19, .cells #[.slice As54_f0 s54.f0.length cs54_f0, .slice As54_f1 s54.f1.length cs54_f1, mpv As54_f2] 63 (0, 0))] :: Cs54_f0 :: Cs54_f1 :: Cs54_f2 :: [(bR70, .cells #[.slice AR70_0 x71.f0.length cR70_0, .slice AR70_1 x71.f1.length cR70_1, mpv AR70_2] 63 (0, 0))] :: CR70_0 :: CR70_1 :: CR70_2 :: Γ) (perm_sel [5, 6, 7, 8, 0, 1, 2, 3, 4] (by kernel_rfl) rfl) ?_
                    rw [Option.bind_eq_some_iff] at h
                    obtain ⟨t133, ht134, h⟩ := h
                    refine WL.op (op := .call { callee := (.value (.func 15)), args := #[(.tmp 95), (.tmp 97)], argTypes := #[23, 27] }) (ty := 3) (d := some 98) (g := none) (by kernel_rfl) (by kernel_rfl) (by kernel_rfl) (Does.call (Φ := fun v' G' Γ' => ∃ (AR135p0_0 : Option Addr), ∃ (cR135p0_0 : Nat), ∃ (CR135p0_0 : Chunk), ∃ (AR135p0_1 : Option Addr), ∃ (cR135p0_1 : Nat), ∃ (CR135p0_1 : Chunk), ∃ (AR135p0_2 : Option Addr), ∃ (cR135p0_2 : Nat), ∃ (CR135p0_2 : Chunk), v' = .int .i64 t133.1 ∧ Ow (kInt .i64) G AR135p0_0 cR135p0_0 t133.2.f0 CR135p0_0 ∧ Ow (kInt .i64) G AR135p0_1 cR135p0_1 t133.2.f1 CR135p0_1 ∧ MpF m61 G AR135p0_2 cR135p0_2 t133.2.f2 CR135p0_2 ∧ G = G' ∧ [(bR127, .cells #[.slice AR135p0_0 t133.2.f0.length cR135p0_0, .slice AR135p0_1 t133.2.f1.length cR135p0_1, mpv AR135p0_2] 63 (0, 0))] :: CR135p0_0 :: CR135p0_1 :: CR135p0_2 :: CR131 :: [(bR19, .cells #[.slice As54_f0 s54.f0.length cs54_f0, .slice As54_f1 s54.f1.length cs54_f1, mpv As54_f2] 63 (0, 0))] :: Cs54_f0 :: Cs54_f1 :: Cs54_f2 :: [(bR70, .cells #[.slice AR70_0 x71.f0.length cR70_0, .slice AR70_1 x71.f1.length cR70_1, mpv AR70_2] 63 (0, 0))] :: CR70_0 :: CR70_1 :: CR70_2 :: Γ = Γ') (f := 15) (args := [.pointer (some ⟨bR127, 0, none⟩), .slice AR131 t129.length cR131]) (by kernel_rfl) (fun W hI => (Calls.lendN (Φ := fun v' N => ∃ (AR135p0_0 : Option Addr), ∃ (cR135p0_0 : Nat), ∃ (CR135p0_0 : Chunk), ∃ (AR135p0_1 : Option Addr), ∃ (cR135p0_1 : Nat), ∃ (CR135p0_1 : Chunk), ∃ (AR135p0_2 : Option Addr), ∃ (cR135p0_2 : Nat), ∃ (CR135p0_2 : Chunk), v' = .int .i64 t133.1 ∧ Ow (kInt .i64) G AR135p0_0 cR135p0_0 t133.2.f0 CR135p0_0 ∧ Ow (kInt .i64) G AR135p0_1 cR135p0_1 t133.2.f1 CR135p0_1 ∧ MpF m61 G AR135p0_2 cR135p0_2 t133.2.f2 CR135p0_2 ∧ N = [[(bR127, .cells #[.slice AR135p0_0 t133.2.f0.length cR135p0_0, .slice AR135p0_1 t133.2.f1.length cR135p0_1, mpv AR135p0_2] 63 (0, 0))], CR135p0_0, CR135p0_1, CR135p0_2]) (H := [[(bR127, .cells #[.slice AR127_0 t125.f0.length cR127_0, .slice AR127_1 t125.f1.length cR127_1, mpv AR127_2] 63 (0, 0))], CR127_0, CR127_1, CR127_2]) (i := 0) rfl hI (fun _ e l137 nl137 hI => by subst e; exact (((state_State_Raise_calls k t125 t129 bR127 AR127_0 cR127_0 CR127_0 (HR127_0.mono l137) AR127_1 cR127_1 CR127_1 (HR127_1.mono l137) AR127_2 cR127_2 CR127_2 (HR127_2.mono l137) AR131 cR131 (HR131.rdN l137 nl137) t133 ht134 hI)).mono fun _ _ hr => by obtain ⟨_, _, _, rfl, hd, hI⟩ := hr; obtain ⟨AR135p0_0, cR135p0_0, CR135p0_0, AR135p0_1, cR135p0_1, CR135p0_1, AR135p0_2, cR135p0_2, CR135p0_2, rfl, HR135p0_0, HR135p0_1, HR135p0_2, rfl, rfl⟩ := hd; exact ⟨_, _, _, rfl, ⟨[[(bR127, .cells #[.slice AR135p0_0 t133.2.f0.length cR135p0_0, .slice AR135p0_1 t133.2.f1.length cR135p0_1, mpv AR135p0_2] 63 (0, 0))], CR135p0_0, CR135p0_1, CR135p0_2], ⟨AR135p0_0, cR135p0_0, CR135p0_0, AR135p0_1, cR135p0_1, CR135p0_1, AR135p0_2, cR135p0_2, CR135p0_2, rfl, (HR135p0_0.flat (kInt_flat _)), (HR135p0_1.flat (kInt_flat _)), (HR135p0_2.flat ()), rfl⟩, rfl, rfl⟩, hI⟩))).mono fun _ _ hr => by obtain ⟨_, _, _, rfl, ⟨_, hd, rfl, rfl⟩, hI⟩ := hr; obtain ⟨AR135p0_0, cR135p0_0, CR135p0_0, AR135p0_1, cR135p0_1, CR135p0_1, AR135p0_2, cR135p0_2, CR135p0_2, rfl, HR135p0_0, HR135p0_1, HR135p0_2, rfl⟩ := hd; exact ⟨_, _, _, rfl, ⟨AR135p0_0, cR135p0_0, CR135p0_0, AR135p0_1, cR135p0_1, CR135p0_1, AR135p0_2, cR135p0_2, CR135p0_2, rfl, HR135p0_0, HR135p0_1, HR135p0_2, rfl, rfl⟩, hI⟩)) ?_
                    rintro _ _ _ ⟨AR135p0_0, cR135p0_0, CR135p0_0, AR135p0_1, cR135p0_1, CR135p0_1, AR135p0_2, cR135p0_2, CR135p0_2, rfl, HR135p0_0, HR135p0_1, HR135p0_2, rfl, rfl⟩
                    refine WL.restQ 4 [8, 11, 12] (L' := [(8, .pointer (some ⟨bR19, 0, none⟩)), (11, .pointer (some ⟨bR70, 0, none⟩)), (12, .pointer (some ⟨bR127, 0, none⟩))]) (by kernel_rfl) ?_
                    refine WP.dropAt 4 ?_
                    refine WP.seqR ?_
                    refine WL.pure 0 2 [11, 12, 99, 100] (L' := [(11, .pointer (some ⟨bR70, 0, none⟩)), (12, .pointer (some ⟨bR127, 0, none⟩)), (99, .pointer (some ⟨bR19, 0, none⟩)), (100, .pointer (some ⟨bR127, 0, none⟩))]) (by kernel_rfl) (by decide) ?_
                    rw [Option.bind_eq_some_iff] at h
                    obtain ⟨t138, ht139, h⟩ := h
                    refine WL.op (op := .call { callee := (.value (.func 11)), args := #[(.tmp 100)], argTypes := #[23] }) (ty := 27) (d := some 101) (g := none) (by kernel_rfl) (by kernel_rfl) (by kernel_rfl) (Does.call (f := 11) (args := [.pointer (some ⟨bR127, 0, none⟩)]) (by kernel_rfl) (fun W hI => (state_State_V_calls t133.2 bR127 AR135p0_0 cR135p0_0 CR135p0_0 HR135p0_0 AR135p0_1 cR135p0_1 CR135p0_1 HR135p0_1 AR135p0_2 cR135p0_2 CR135p0_2 HR135p0_2 t138 ht139 hI))) ?_
                    rintro _ _ _ ⟨AR140, cR140, CR140, rfl, HR140, rfl, rfl⟩
                    refine WL.pure 3 4 [11, 12, 99, 101, 102] (L' := [(11, .pointer (some ⟨bR70, 0, none⟩)), (12, .pointer (some ⟨bR127, 0, none⟩)), (99, .pointer (some ⟨bR19, 0, none⟩)), (101, .slice AR140 t138.length cR140), (102, .pointer (some ⟨bR127, 0, none⟩))]) (by kernel_rfl) (by decide) ?_
                    refine WL.reperm (Γ' := [(bR127, .cells #[.slice AR135p0_0 t133.2.f0.length cR135p0_0, .slice AR135p0_1 t133.2.f1.length cR135p0_1, mpv AR135p0_2] 63 (0, 0))] :: CR135p0_0 :: CR135p0_1 :: CR135p0_2 :: CR140 :: [(bR19, .cells #[.slice As54_f0 s54.f0.length cs54_f0, .slice As54_f1 s54.f1.length cs54_f1, mpv As54_f2] 63 (0, 0))] :: Cs54_f0 :: Cs54_f1 :: Cs54_f2 :: [(bR70, .cells #[.slice AR70_0 x71.f0.length cR70_0, .slice AR70_1 x71.f1.length cR70_1, mpv AR70_2] 63 (0, 0))] :: CR70_0 :: CR70_1 :: CR70_2 :: Γ) (perm_sel [1, 2, 3, 4, 0] (by kernel_rfl) rfl) ?_
                    rw [Option.bind_eq_some_iff] at h
                    obtain ⟨t142, ht143, h⟩ := h
                    refine WL.op (op := .call { callee := (.value (.func 12)), args := #[(.tmp 102)], argTypes := #[23] }) (ty := 27) (d := some 103) (g := none) (by kernel_rfl) (by kernel_rfl) (by kernel_rfl) (Does.call (f := 12) (args := [.pointer (some ⟨bR127, 0, none⟩)]) (by kernel_rfl) (fun W hI => (state_State_W_calls t133.2 bR127 AR135p0_0 cR135p0_0 CR135p0_0 HR135p0_0 AR135p0_1 cR135p0_1 CR135p0_1 HR135p0_1 AR135p0_2 cR135p0_2 CR135p0_2 HR135p0_2 t142 ht143 hI))) ?_
                    rintro _ _ _ ⟨AR144, cR144, CR144, rfl, HR144, rfl, rfl⟩
                    refine WL.reperm (Γ' := [(bR19, .cells #[.slice As54_f0 s54.f0.length cs54_f0, .slice As54_f1 s54.f1.length cs54_f1, mpv As54_f2] 63 (0, 0))] :: Cs54_f0 :: Cs54_f1 :: Cs54_f2 :: CR144 :: [(bR127, .cells #[.slice AR135p0_0 t133.2.f0.length cR135p0_0, .slice AR135p0_1 t133.2.f1.length cR135p0_1, mpv AR135p0_2] 63 (0, 0))] :: CR135p0_0 :: CR135p0_1 :: CR135p0_2 :: CR140 :: [(bR70, .cells #[.slice AR70_0 x71.f0.length cR70_0, .slice AR70_1 x71.f1.length cR70_1, mpv AR70_2] 63 (0, 0))] :: CR70_0 :: CR70_1 :: CR70_2 :: Γ) (perm_sel [6, 7, 8, 9, 0, 1, 2, 3, 4, 5] (by kernel_rfl) rfl) ?_
                    rw [Option.bind_eq_some_iff] at h
                    obtain ⟨t146, ht147, h⟩ := h
                    refine WL.op (op := .call { callee := (.value (.func 27)), args := #[(.tmp 99), (.tmp 101), (.tmp 103)], argTypes := #[23, 27, 27] }) (ty := 45) (d := some 104) (g := none) (by kernel_rfl) (by kernel_rfl) (by kernel_rfl) (Does.call (Φ := fun v' G' Γ' => ∃ (AR148 : Option Addr), ∃ (cR148 : Nat), ∃ (CR148 : Chunk), v' = .slice AR148 t146.length cR148 ∧ Ow k34 G AR148 cR148 t146 CR148 ∧ G = G' ∧ CR148 :: [(bR19, .cells #[.slice As54_f0 s54.f0.length cs54_f0, .slice As54_f1 s54.f1.length cs54_f1, mpv As54_f2] 63 (0, 0))] :: Cs54_f0 :: Cs54_f1 :: Cs54_f2 :: CR144 :: [(bR127, .cells #[.slice AR135p0_0 t133.2.f0.length cR135p0_0, .slice AR135p0_1 t133.2.f1.length cR135p0_1, mpv AR135p0_2] 63 (0, 0))] :: CR135p0_0 :: CR135p0_1 :: CR135p0_2 :: CR140 :: [(bR70, .cells #[.slice AR70_0 x71.f0.length cR70_0, .slice AR70_1 x71.f1.length cR70_1, mpv AR70_2] 63 (0, 0))] :: CR70_0 :: CR70_1 :: CR70_2 :: Γ = Γ') (f := 27) (args := [.pointer (some ⟨bR19, 0, none⟩), .slice AR140 t138.length cR140, .slice AR144 t142.length cR144]) (by kernel_rfl) (fun W hI => (Calls.lendN (Φ := fun v' N => ∃ (AR148 : Option Addr), ∃ (cR148 : Nat), ∃ (CR148 : Chunk), v' = .slice AR148 t146.length cR148 ∧ Ow k34 G AR148 cR148 t146 CR148 ∧ N = [CR148, [(bR19, .cells #[.slice As54_f0 s54.f0.length cs54_f0, .slice As54_f1 s54.f1.length cs54_f1, mpv As54_f2] 63 (0, 0))], Cs54_f0, Cs54_f1, Cs54_f2]) (H := [[(bR19, .cells #[.slice As54_f0 s54.f0.length cs54_f0, .slice As54_f1 s54.f1.length cs54_f1, mpv As54_f2] 63 (0, 0))], Cs54_f0, Cs54_f1, Cs54_f2]) (i := 5) rfl hI (fun _ e l150 nl150 hI => by subst e; exact Calls.lendN (Φ := fun v' N => ∃ (AR148 : Option Addr), ∃ (cR148 : Nat), ∃ (CR148 : Chunk), v' = .slice AR148 t146.length cR148 ∧ Ow k34 G AR148 cR148 t146 CR148 ∧ N = [CR148, [(bR19, .cells #[.slice As54_f0 s54.f0.length cs54_f0, .slice As54_f1 s54.f1.length cs54_f1, mpv As54_f2] 63 (0, 0))], Cs54_f0, Cs54_f1, Cs54_f2]) (H := [[(bR19, .cells #[.slice As54_f0 s54.f0.length cs54_f0, .slice As54_f1 s54.f1.length cs54_f1, mpv As54_f2] 63 (0, 0))], Cs54_f0, Cs54_f1, Cs54_f2]) (i := 0) rfl hI (fun _ e l151 nl151 hI => by subst e; exact (((state_State_Lacks_calls k s54 t138 t142 bR19 As54_f0 cs54_f0 Cs54_f0 ((Hs54_f0.mono l150).mono l151) As54_f1 cs54_f1 Cs54_f1 ((Hs54_f1.mono l150).mono l151) As54_f2 cs54_f2 Cs54_f2 ((Hs54_f2.mono l150).mono l151) AR140 cR140 ((HR140.rdN l150 nl150).mono l151) AR144 cR144 ((HR144.mono l150).rdN l151 nl151) t146 ht147 hI)).mono fun _ _ hr => by obtain ⟨_, _, _, rfl, hd, hI⟩ := hr; obtain ⟨AR148, cR148, CR148, rfl, HR148, rfl, rfl⟩ := hd; exact ⟨_, _, _, rfl, ⟨[CR148, [(bR19, .cells #[.slice As54_f0 s54.f0.length cs54_f0, .slice As54_f1 s54.f1.length cs54_f1, mpv As54_f2] 63 (0, 0))], Cs54_f0, Cs54_f1, Cs54_f2], ⟨AR148, cR148, CR148, rfl, (HR148.flat (kFlat_flat _ _ _ _)), rfl⟩, rfl, rfl⟩, hI⟩)))).mono fun _ _ hr => by obtain ⟨_, _, _, rfl, ⟨_, hd, rfl, rfl⟩, hI⟩ := hr; obtain ⟨AR148, cR148, CR148, rfl, HR148, rfl⟩ := hd; exact ⟨_, _, _, rfl, ⟨AR148, cR148, CR148, rfl, HR148, rfl, rfl⟩, hI⟩)) ?_
                    rintro _ _ _ ⟨AR148, cR148, CR148, rfl, HR148, rfl, rfl⟩
                    refine WL.restQ 6 [11, 12, 13] (L' := [(11, .pointer (some ⟨bR70, 0, none⟩)), (12, .pointer (some ⟨bR127, 0, none⟩)), (13, .slice AR148 t146.length cR148)]) (by kernel_rfl) ?_
                    refine WP.dropAt 10 ?_
                    refine WP.dropAt 5 ?_
                    refine WP.dropAt 4 ?_
                    refine WP.dropAt 3 ?_
                    refine WP.dropAt 2 ?_
                    refine WP.dropAt 1 ?_
                    refine WP.seq ?_
                    refine WP.seqP [11, 12, 13, 14] (L' := [(11, .pointer (some ⟨bR70, 0, none⟩)), (12, .pointer (some ⟨bR127, 0, none⟩)), (13, .slice AR148 t146.length cR148), (14, .int .i64 0)]) (by kernel_rfl) ?_
                    rw [Option.bind_eq_some_iff] at h
                    obtain ⟨os152, h, hk153⟩ := h
                    refine WP.cutQ (fun L' G' Γ' => ∃ s152 : T63, Sum.inr s152 = os152 ∧ ∃ (As152_f0 : Option Addr), ∃ (cs152_f0 : Nat), ∃ (Cs152_f0 : Chunk), ∃ (As152_f1 : Option Addr), ∃ (cs152_f1 : Nat), ∃ (Cs152_f1 : Chunk), ∃ (As152_f2 : Option Addr), ∃ (cs152_f2 : Nat), ∃ (Cs152_f2 : Chunk), L' = [(11, .pointer (some ⟨bR70, 0, none⟩)), (12, .pointer (some ⟨bR127, 0, none⟩))] ∧ G = G' ∧ [(bR127, .cells #[.slice As152_f0 s152.f0.length cs152_f0, .slice As152_f1 s152.f1.length cs152_f1, mpv As152_f2] 63 (0, 0))] :: Cs152_f0 :: Cs152_f1 :: Cs152_f2 :: [(bR70, .cells #[.slice AR70_0 x71.f0.length cR70_0, .slice AR70_1 x71.f1.length cR70_1, mpv AR70_2] 63 (0, 0))] :: CR70_0 :: CR70_1 :: CR70_2 :: Γ = Γ' ∧ Ow (kInt .i64) G As152_f0 cs152_f0 s152.f0 Cs152_f0 ∧ Ow (kInt .i64) G As152_f1 cs152_f1 s152.f1 Cs152_f1 ∧ MpF m61 G As152_f2 cs152_f2 s152.f2 Cs152_f2) ?_ ?_
                    · skip
                      refine WP.block ?_
                      refine WP.pick [11, 12, 13, 14] ?_
                      refine WP.loopF (fun kn156 L' G' Γ' => ∃ (y154 : Int), ∃ (y155 : T63), grapevinelaw19_StateJoins_l2 t146 kn156 y154 y155 = some os152 ∧ ∃ (Ay155_f0 : Option Addr), ∃ (cy155_f0 : Nat), ∃ (Cy155_f0 : Chunk), ∃ (Ay155_f1 : Option Addr), ∃ (cy155_f1 : Nat), ∃ (Cy155_f1 : Chunk), ∃ (Ay155_f2 : Option Addr), ∃ (cy155_f2 : Nat), ∃ (Cy155_f2 : Chunk), L' = [(11, .pointer (some ⟨bR70, 0, none⟩)), (12, .pointer (some ⟨bR127, 0, none⟩)), (13, .slice AR148 t146.length cR148), (14, .int .i64 y154)] ∧ G = G' ∧ CR148 :: [(bR127, .cells #[.slice Ay155_f0 y155.f0.length cy155_f0, .slice Ay155_f1 y155.f1.length cy155_f1, mpv Ay155_f2] 63 (0, 0))] :: Cy155_f0 :: Cy155_f1 :: Cy155_f2 :: [(bR70, .cells #[.slice AR70_0 x71.f0.length cR70_0, .slice AR70_1 x71.f1.length cR70_1, mpv AR70_2] 63 (0, 0))] :: CR70_0 :: CR70_1 :: CR70_2 :: Γ = Γ' ∧ Ow (kInt .i64) G Ay155_f0 cy155_f0 y155.f0 Cy155_f0 ∧ Ow (kInt .i64) G Ay155_f1 cy155_f1 y155.f1 Cy155_f1 ∧ MpF m61 G Ay155_f2 cy155_f2 y155.f2 Cy155_f2) ?_ k ⟨0, t133.2, h, AR135p0_0, cR135p0_0, CR135p0_0, AR135p0_1, cR135p0_1, CR135p0_1, AR135p0_2, cR135p0_2, CR135p0_2, rfl, rfl, rfl, HR135p0_0, HR135p0_1, HR135p0_2⟩
                      clear h
                      rintro kn157 _ _ _ ⟨y154, y155, h, Ay155_f0, cy155_f0, Cy155_f0, Ay155_f1, cy155_f1, Cy155_f1, Ay155_f2, cy155_f2, Cy155_f2, rfl, rfl, rfl, Hy155_f0, Hy155_f1, Hy155_f2⟩
                      cases kn157 with
                      | zero => exact absurd h (by simp [grapevinelaw19_StateJoins_l2])
                      | succ kn157 =>
                        simp only [grapevinelaw19_StateJoins_l2] at h
                        refine WP.seq ?_
                        refine WP.seqP [11, 12, 13, 14, 108] (L' := [(11, .pointer (some ⟨bR70, 0, none⟩)), (12, .pointer (some ⟨bR127, 0, none⟩)), (13, .slice AR148 t146.length cR148), (14, .int .i64 y154), (108, .bool (decide (y154 < (t146.length : Int))))]) (by kernel_rfl) ?_
                        refine WP.cond (b := decide (y154 < (t146.length : Int))) (by kernel_rfl) (fun hc => ?_) (fun hc => ?_)
                        · replace hc := of_decide_eq_true hc
                          rw [if_pos hc] at h
                          have hc158 := hc
                          clear hc
                          refine WP.skip ?_
                          refine QP.next ?_
                          refine WP.pick [11, 12, 13, 14] ?_
                          refine WP.seq ?_
                          refine WP.block ?_
                          refine WP.seqR ?_
                          refine WL.pure 0 3 [11, 12, 13, 14, 111, 112, 113] (L' := [(11, .pointer (some ⟨bR70, 0, none⟩)), (12, .pointer (some ⟨bR127, 0, none⟩)), (13, .slice AR148 t146.length cR148), (14, .int .i64 y154), (111, .pointer (some ⟨bR127, 0, none⟩)), (112, .slice AR148 t146.length cR148), (113, .int .i64 y154)]) (by kernel_rfl) (by decide) ?_
                          by_cases hb159 : 0 ≤ y154 ∧ y154 < (t146.length : Int)
                          case neg => rw [if_neg hb159] at h; cases h
                          rw [if_pos hb159] at h
                          refine WL.tell (op := .indexAddr 45 (.tmp 112) (.tmp 113)) (ty := 0) (d := some 114) (g := none) (by kernel_rfl) (by kernel_rfl) (by kernel_rfl) (Tells.indexAddr (A := AR148) (n := t146.length) (c := cR148) (k := .i64) (j := y154) (by kernel_rfl) (by kernel_rfl) (HR148.isSome hb159.1 hb159.2) hb159.1 hb159.2 sl45) ?_
                          refine WL.tellE (op := .load 34 (.tmp 114)) (ty := 34) (d := some 115) (g := none) (by kernel_rfl) (by kernel_rfl) (by kernel_rfl) (HR148.load (i := 0) rfl (agg := true) hb159.1 hb159.2 z34 ag34 (fun h => by cases h) (by kernel_rfl)) ?_
                          rintro _ rfl
                          refine WL.reperm (Γ' := [(bR127, .cells #[.slice Ay155_f0 y155.f0.length cy155_f0, .slice Ay155_f1 y155.f1.length cy155_f1, mpv Ay155_f2] 63 (0, 0))] :: Cy155_f0 :: Cy155_f1 :: Cy155_f2 :: CR148 :: [(bR70, .cells #[.slice AR70_0 x71.f0.length cR70_0, .slice AR70_1 x71.f1.length cR70_1, mpv AR70_2] 63 (0, 0))] :: CR70_0 :: CR70_1 :: CR70_2 :: Γ) (perm_sel [1, 2, 3, 4, 0] (by kernel_rfl) rfl) ?_
                          rw [Option.bind_eq_some_iff] at h
                          obtain ⟨t160, ht161, h⟩ := h
                          refine WL.op (op := .call { callee := (.value (.func 13)), args := #[(.tmp 111), (.tmp 115)], argTypes := #[23, 34] }) (ty := 37) (d := some 116) (g := none) (by kernel_rfl) (by kernel_rfl) (by kernel_rfl) (Does.call (f := 13) (args := [.pointer (some ⟨bR127, 0, none⟩), .agg #[.int .i64 ((t146.getD y154.toNat z34).f0), .int .i64 ((t146.getD y154.toNat z34).f1), .int .i64 ((t146.getD y154.toNat z34).f2), .int .i64 ((t146.getD y154.toNat z34).f3), .string ((t146.getD y154.toNat z34).f4)]]) (by kernel_rfl) (fun W hI => (state_State_Accept_calls HT y155 (t146.getD y154.toNat z34) bR127 Ay155_f0 cy155_f0 Cy155_f0 Hy155_f0 Ay155_f1 cy155_f1 Cy155_f1 Hy155_f1 Ay155_f2 cy155_f2 Cy155_f2 Hy155_f2 t160 ht161 hI))) ?_
                          rintro _ _ _ ⟨AR162p0_0, cR162p0_0, CR162p0_0, AR162p0_1, cR162p0_1, CR162p0_1, AR162p0_2, cR162p0_2, CR162p0_2, rfl, HR162p0_0, HR162p0_1, HR162p0_2, rfl, rfl⟩
                          refine WL.restQ 6 [11, 12, 13, 14, 117] (L' := [(11, .pointer (some ⟨bR70, 0, none⟩)), (12, .pointer (some ⟨bR127, 0, none⟩)), (13, .slice AR148 t146.length cR148), (14, .int .i64 y154), (117, .bool (t160.1 != 0))]) (by kernel_rfl) ?_
                          refine WP.cond (b := (t160.1 != 0)) (by kernel_rfl) (fun hc => ?_) (fun hc => ?_)
                          · replace hc := (bne_iff_ne.1 hc)
                            rw [if_pos hc] at h
                            have hc164 := hc
                            clear hc
                            refine WP.seqP [6] (L' := [(6, .bool false)]) (by kernel_rfl) ?_
                            refine WP.dropAt 8 ?_
                            refine WP.dropAt 7 ?_
                            refine WP.dropAt 6 ?_
                            refine WP.dropAt 5 ?_
                            refine WP.dropAt 4 ?_
                            refine WP.dropAt 3 ?_
                            refine WP.dropAt 2 ?_
                            refine WP.dropAt 1 ?_
                            refine WP.dropAt 0 ?_
                            refine WP.ret ?_
                            refine QP.blockR ?_
                            refine QP.thenR ?_
                            refine QP.thenR ?_
                            refine QP.blockR ?_
                            refine QP.thenR ?_
                            refine QP.thenR ?_
                            obtain rfl := Option.some.inj h
                            obtain rfl := Option.some.inj (show some _ = some _ from hk153)
                            exact QP.returned [6] [.bool false] _ (by kernel_rfl) (by kernel_rfl) (by kernel_rfl) (fun W hI => ⟨_, _, _, rfl, ⟨rfl, rfl, rfl⟩, hI⟩)
                          · replace hc := (not_not_intro (bne_eq_false_iff_eq.1 hc))
                            rw [if_neg hc] at h
                            have hc164 := hc
                            clear hc
                            refine WP.skip ?_
                            refine QP.blockN ?_
                            refine QP.next ?_
                            refine WP.pick [11, 12, 13, 14] ?_
                            refine WP.regionP [11, 12, 13, 14] (L' := [(11, .pointer (some ⟨bR70, 0, none⟩)), (12, .pointer (some ⟨bR127, 0, none⟩)), (13, .slice AR148 t146.length cR148), (14, .int .i64 (IntKind.i64.wrap (y154 + 1)))]) (by kernel_rfl) ?_
                            refine QP.reperm (Γ' := CR148 :: [(bR127, .cells #[.slice AR162p0_0 t160.2.f0.length cR162p0_0, .slice AR162p0_1 t160.2.f1.length cR162p0_1, mpv AR162p0_2] 63 (0, 0))] :: CR162p0_0 :: CR162p0_1 :: CR162p0_2 :: [(bR70, .cells #[.slice AR70_0 x71.f0.length cR70_0, .slice AR70_1 x71.f1.length cR70_1, mpv AR70_2] 63 (0, 0))] :: CR70_0 :: CR70_1 :: CR70_2 :: Γ) (perm_sel [4, 0, 1, 2, 3] (by kernel_rfl) rfl) ?_
                            refine QP.pick [11, 12, 13, 14] ?_
                            exact QP.meet ⟨kn157, Nat.lt_succ_self _, (IntKind.i64.wrap (y154 + 1)), t160.2, h, AR162p0_0, cR162p0_0, CR162p0_0, AR162p0_1, cR162p0_1, CR162p0_1, AR162p0_2, cR162p0_2, CR162p0_2, rfl, rfl, rfl, HR162p0_0, HR162p0_1, HR162p0_2⟩
                        · replace hc := of_decide_eq_false hc
                          rw [if_neg hc] at h
                          have hc158 := hc
                          clear hc
                          refine WP.exit ?_
                          refine QP.thenE ?_
                          refine QP.thenE ?_
                          refine QP.blockE ?_
                          refine QP.dropAt 0 ?_
                          refine QP.pick [11, 12] ?_
                          exact QP.meet ⟨_, Option.some.inj h, Ay155_f0, cy155_f0, Cy155_f0, Ay155_f1, cy155_f1, Cy155_f1, Ay155_f2, cy155_f2, Cy155_f2, rfl, rfl, rfl, Hy155_f0, Hy155_f1, Hy155_f2⟩
                    · rintro _ _ _ ⟨s152, rfl, As152_f0, cs152_f0, Cs152_f0, As152_f1, cs152_f1, Cs152_f1, As152_f2, cs152_f2, Cs152_f2, rfl, rfl, rfl, Hs152_f0, Hs152_f1, Hs152_f2⟩
                      clear h
                      replace h := hk153
                      dsimp only at h
                      refine QP.next ?_
                      refine WP.pick [11, 12] ?_
                      rw [Option.bind_eq_some_iff] at h
                      obtain ⟨os165, h, hk166⟩ := h
                      refine WP.cut (fun L' G' Γ' => ∃ s165 : Bool, s165 = os165 ∧ L' = [(6, .bool s165)] ∧ G = G' ∧ Γ = Γ') ?_ ?_
                      · clear hk166
                        refine WP.region ?_
                        refine WL.pure 0 2 [118, 119] (L' := [(118, .pointer (some ⟨bR127, 0, none⟩)), (119, .pointer (some ⟨bR70, 0, none⟩))]) (by kernel_rfl) (by decide) ?_
                        rw [Option.bind_eq_some_iff] at h
                        obtain ⟨t167, ht168, h⟩ := h
                        refine WL.op (op := .call { callee := (.value (.func 25)), args := #[(.tmp 118), (.tmp 119)], argTypes := #[23, 23] }) (ty := 4) (d := some 120) (g := none) (by kernel_rfl) (by kernel_rfl) (by kernel_rfl) (Does.call (f := 25) (args := [.pointer (some ⟨bR127, 0, none⟩), .pointer (some ⟨bR70, 0, none⟩)]) (by kernel_rfl) (fun W hI => (state_Same_calls k s152 x71 bR127 As152_f0 cs152_f0 Cs152_f0 Hs152_f0 As152_f1 cs152_f1 Cs152_f1 Hs152_f1 As152_f2 cs152_f2 Cs152_f2 Hs152_f2 bR70 AR70_0 cR70_0 CR70_0 HR70_0 AR70_1 cR70_1 CR70_1 HR70_1 AR70_2 cR70_2 CR70_2 HR70_2 t167 ht168 hI))) ?_
                        rintro _ _ _ ⟨rfl, rfl, rfl⟩
                        refine WL.pure 3 4 [121] (L' := [(121, .bool t167)]) (by kernel_rfl) (by decide) ?_
                        refine WL.split 121 (b := t167) (by kernel_rfl) (fun hc => ?_) (fun hc => ?_)
                        · replace hc := hc
                          rw [if_pos hc] at h
                          have hc171 := hc
                          clear hc
                          rw [Option.bind_eq_some_iff] at h
                          obtain ⟨t172, ht173, h⟩ := h
                          refine WL.op (op := .call { callee := (.value (.func 10)), args := #[], argTypes := #[] }) (ty := 4) (d := some 122) (g := some (3, true)) (by kernel_rfl) (by kernel_rfl) (by kernel_rfl) (Does.call (f := 10) (args := []) (by kernel_rfl) (fun W hI => (grapevinelaw19_awake_calls HT k   t172 ht173 hI))) ?_
                          rintro _ _ _ ⟨rfl, rfl, rfl⟩
                          refine WL.rest 5 [6] (L' := [(6, .bool t172)]) (by kernel_rfl) ?_
                          refine QP.dropAt 7 ?_
                          refine QP.dropAt 6 ?_
                          refine QP.dropAt 5 ?_
                          refine QP.dropAt 4 ?_
                          refine QP.dropAt 3 ?_
                          refine QP.dropAt 2 ?_
                          refine QP.dropAt 1 ?_
                          refine QP.dropAt 0 ?_
                          refine QP.pick [6] ?_
                          exact QP.meet ⟨_, Option.some.inj h, rfl, rfl, rfl⟩
                        · replace hc := (Bool.eq_false_iff.1 hc)
                          rw [if_neg hc] at h
                          have hc171 := hc
                          clear hc
                          refine WL.rest 4 [6] (L' := [(6, .bool false)]) (by kernel_rfl) ?_
                          refine QP.dropAt 7 ?_
                          refine QP.dropAt 6 ?_
                          refine QP.dropAt 5 ?_
                          refine QP.dropAt 4 ?_
                          refine QP.dropAt 3 ?_
                          refine QP.dropAt 2 ?_
                          refine QP.dropAt 1 ?_
                          refine QP.dropAt 0 ?_
                          refine QP.pick [6] ?_
                          exact QP.meet ⟨_, Option.some.inj h, rfl, rfl, rfl⟩
                      · rintro _ _ _ ⟨s165, rfl, rfl, rfl, rfl⟩
                        clear h
                        replace h := hk166
                        refine WP.ret ?_
                        obtain rfl := Option.some.inj h
                        exact QP.returned [6] [.bool s165] _ (by kernel_rfl) (by kernel_rfl) (by kernel_rfl) (fun W hI => ⟨_, _, _, rfl, ⟨rfl, rfl, rfl⟩, hI⟩)
/-- The plain law. -/
def StateJoins_Pure : Prop := ∀ (a0 : Int) (l1 : List T36) (l2 : List T36), (Lit.int .i64 a0).wf = true → (l1.length ≤ maxLen ∧ ∀ z0 ∈ l1, ((Lit.int .i64 z0.f0).wf = true ∧ (Lit.int .i64 z0.f1).wf = true ∧ (Lit.int .i64 z0.f2).wf = true ∧ (Lit.int .i64 z0.f3).wf = true ∧ (Lit.int .i64 z0.f4).wf = true ∧ (Lit.int .i64 z0.f5).wf = true ∧ (Lit.int .i64 z0.f6).wf = true ∧ z0.f7.size ≤ maxLen ∧ (z0.f8.length ≤ maxLen ∧ ∀ zz0_f8 ∈ z0.f8, (Lit.int .i64 zz0_f8).wf = true))) → (l2.length ≤ maxLen ∧ ∀ z0 ∈ l2, ((Lit.int .i64 z0.f0).wf = true ∧ (Lit.int .i64 z0.f1).wf = true ∧ (Lit.int .i64 z0.f2).wf = true ∧ (Lit.int .i64 z0.f3).wf = true ∧ (Lit.int .i64 z0.f4).wf = true ∧ (Lit.int .i64 z0.f5).wf = true ∧ (Lit.int .i64 z0.f6).wf = true ∧ z0.f7.size ≤ maxLen ∧ (z0.f8.length ≤ maxLen ∧ ∀ zz0_f8 ∈ z0.f8, (Lit.int .i64 zz0_f8).wf = true))) → ∃ k, grapevinelaw19_StateJoins k a0 l1 l2 = some true
end Go.Proofs.YtjefgmglgphdbaaDoor.Gf
