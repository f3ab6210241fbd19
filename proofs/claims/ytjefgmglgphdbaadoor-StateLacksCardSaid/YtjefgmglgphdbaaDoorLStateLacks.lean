/- Walks of Go functions: what each tells, as a plain Lean function, and that the Go code comes to it. Written by gg.py of this repo. -/
import Derived.Test.YtjefgmglgphdbaaDoorT
import Derived.Test.YtjefgmglgphdbaaDoorF0
import Derived.Test.YtjefgmglgphdbaaDoorF1
import Derived.Test.YtjefgmglgphdbaaDoorF2
namespace Go.Proofs.YtjefgmglgphdbaaDoor.Gf
open Go Go.Gg
set_option maxRecDepth 100000
set_option linter.unusedVariables false
set_option linter.unusedSimpArgs false

/-! ### grapevine/grapevinelaw19.StateLacks: function 7 -/
noncomputable def grapevinelaw19_StateLacks_l0 (l1 : List T36) : Nat → Int → T63 → Option T63
  | 0, _, _ => none
  | k + 1, y43, y44 => (if y43 < (l1.length : Int) then (if 0 ≤ y43 ∧ y43 < (l1.length : Int) then ((grapevinelaw19_play k y44 (l1.getD y43.toNat z36)).bind fun t50 => grapevinelaw19_StateLacks_l0 l1 k (IntKind.i64.wrap (y43 + 1)) t50) else none) else some y44)
noncomputable def grapevinelaw19_StateLacks_l1 (l2 : List T36) : Nat → Int → T63 → Option T63
  | 0, _, _ => none
  | k + 1, y56, y57 => (if y56 < (l2.length : Int) then (if 0 ≤ y56 ∧ y56 < (l2.length : Int) then ((grapevinelaw19_play k y57 (l2.getD y56.toNat z36)).bind fun t63 => grapevinelaw19_StateLacks_l1 l2 k (IntKind.i64.wrap (y56 + 1)) t63) else none) else some y57)
noncomputable def grapevinelaw19_StateLacks_l3 (v67 : Int) (t98 : List T34) : Nat → Int → T63 → Option (Sum Bool T63)
  | 0, _, _ => none
  | k + 1, y107, y108 => ((if y107 < (t98.length : Int) then some (decide (y107 < v67)) else some false).bind fun s111 => (if s111 = true then (if 0 ≤ y107 ∧ y107 < (t98.length : Int) then ((state_State_Accept y108 (t98.getD y107.toNat z34)).bind fun t116 => (if ¬ t116.1 = 0 then some (Sum.inl false) else grapevinelaw19_StateLacks_l3 v67 t98 k (IntKind.i64.wrap (y107 + 1)) t116.2)) else none) else some (Sum.inr y108)))
noncomputable def grapevinelaw19_StateLacks_l2 (s54 : T63) (v67 : Int) : Nat → Int → T63 → Option (Sum Bool T63)
  | 0, _, _ => none
  | k + 1, y76, y77 => (if y76 < 200 then ((state_State_W s54).bind fun t81 => ((state_State_Raise k y77 t81).bind fun t85 => ((state_State_V t85.2).bind fun t90 => ((state_State_W t85.2).bind fun t94 => ((state_State_Lacks k s54 t90 t94).bind fun t98 => (if (t98.length : Int) = 0 then some (Sum.inr t85.2) else ((grapevinelaw19_StateLacks_l3 v67 t98 k 0 t85.2).bind fun os105 => match os105 with | Sum.inl r => some (Sum.inl r) | Sum.inr s105 => grapevinelaw19_StateLacks_l2 s54 v67 k (IntKind.i64.wrap (y76 + 1)) s105))))))) else some (Sum.inr y77))
noncomputable def grapevinelaw19_StateLacks_l5 (v67 : Int) (t171 : List T34) : Nat → Int → T63 → Option (Sum Bool T63)
  | 0, _, _ => none
  | k + 1, y180, y181 => ((if y180 < (t171.length : Int) then some (decide (y180 < v67)) else some false).bind fun s184 => (if s184 = true then (if 0 ≤ y180 ∧ y180 < (t171.length : Int) then ((state_State_Accept y181 (t171.getD y180.toNat z34)).bind fun t189 => (if ¬ t189.1 = 0 then some (Sum.inl false) else grapevinelaw19_StateLacks_l5 v67 t171 k (IntKind.i64.wrap (y180 + 1)) t189.2)) else none) else some (Sum.inr y181)))
noncomputable def grapevinelaw19_StateLacks_l4 (s54 : T63) (v67 : Int) : Nat → Int → T63 → Option (Sum Bool T63)
  | 0, _, _ => none
  | k + 1, y149, y150 => (if y149 < 200 then ((state_State_W s54).bind fun t154 => ((state_State_Raise k y150 t154).bind fun t158 => ((state_State_V t158.2).bind fun t163 => ((state_State_W t158.2).bind fun t167 => ((state_State_Lacks k s54 t163 t167).bind fun t171 => (if (t171.length : Int) = 0 then some (Sum.inr t158.2) else ((grapevinelaw19_StateLacks_l5 v67 t171 k 0 t158.2).bind fun os178 => match os178 with | Sum.inl r => some (Sum.inl r) | Sum.inr s178 => grapevinelaw19_StateLacks_l4 s54 v67 k (IntKind.i64.wrap (y149 + 1)) s178))))))) else some (Sum.inr y150))
noncomputable def grapevinelaw19_StateLacks (k : Nat) (a0 : Int) (l1 : List T36) (l2 : List T36) (a3 : Int) : Option Bool := ((state_New a0).bind fun t1 => Option.elim t1 ((state_New a0).bind fun t5 => Option.elim t5 ((grapevinelaw19_awake k ).bind fun t9 => some t9) (fun x8 => ((grapevinelaw19_awake k ).bind fun t13 => some t13))) (fun x4 => ((state_New a0).bind fun t17 => Option.elim t17 ((grapevinelaw19_awake k ).bind fun t21 => some t21) (fun x20 => (((grapevinelaw19_great k l1 25).bind fun t27 => (if t27 = true then some true else ((grapevinelaw19_great k l2 25).bind fun t32 => some t32))).bind fun s25 => (if s25 = true then ((grapevinelaw19_awake k ).bind fun t37 => some t37) else ((grapevinelaw19_StateLacks_l0 l1 k 0 x4).bind fun s41 => ((grapevinelaw19_StateLacks_l1 l2 k 0 x20).bind fun s54 => ((some (IntKind.i64.wrap (1 + (IntKind.i64.wrap (Int.tmod (IntKind.u64.wrap a3) 5))))).bind fun v67 => ((state_Join k s41 s54).bind fun t70 => Option.elim t70 ((grapevinelaw19_StateLacks_l2 s54 v67 k 0 s41).bind fun os74 => match os74 with | Sum.inl r => some r | Sum.inr s74 => (((state_Same_36 s74).bind fun t123 => (if t123 = true then ((state_State_V s74).bind fun t128 => ((state_State_W s74).bind fun t132 => ((state_State_Lacks k s54 t128 t132).bind fun t136 => (if (t136.length : Int) = 0 then ((grapevinelaw19_awake k ).bind fun t143 => some t143) else some false)))) else some false)).bind fun s121 => some s121)) (fun x73 => ((grapevinelaw19_StateLacks_l4 s54 v67 k 0 s41).bind fun os147 => match os147 with | Sum.inl r => some r | Sum.inr s147 => (((state_Same k s147 x73).bind fun t196 => (if t196 = true then ((state_State_V s147).bind fun t201 => ((state_State_W s147).bind fun t205 => ((state_State_Lacks k s54 t201 t205).bind fun t209 => (if (t209.length : Int) = 0 then ((grapevinelaw19_awake k ).bind fun t216 => some t216) else some false)))) else some false)).bind fun s194 => some s194)))))))))))))
set_option maxHeartbeats 4000000 in
theorem grapevinelaw19_StateLacks_calls {B : World} {G : GMap} {Γ : List Chunk} {W : World} (HT : Tabs B G) (k : Nat) (a0 : Int) (l1 : List T36) (l2 : List T36) (a3 : Int) (Al1 : Option Addr) (cl1 : Nat) (Hl1 : Rd k36 G Al1 cl1 l1) (Al2 : Option Addr) (cl2 : Nat) (Hl2 : Rd k36 G Al2 cl2 l2) (r : Bool) (h : grapevinelaw19_StateLacks k a0 l1 l2 a3 = some r) (hI : Inv B G (Γ) W) :
    Calls Tryd.prog 7 [.int .i64 a0, .slice Al1 l1.length cl1, .slice Al2 l2.length cl2, .int .i64 a3].toArray W (Ret B (fun v G' Γ' => v = .bool r ∧ G = G' ∧ Γ = Γ')) := by
  refine calls_WP (Γ := Γ) (G := G) (B := B) Tryd.func7 rfl (by kernel_rfl) ?_ hI
  clear hI
  unfold grapevinelaw19_StateLacks at h
  refine WP.seqP [0, 1, 2, 3] (L' := [(0, .int .i64 a0), (1, .slice Al1 l1.length cl1), (2, .slice Al2 l2.length cl2), (3, .int .i64 a3)]) (by kernel_rfl) ?_
  refine WP.seqR ?_
  refine WL.pure 0 1 [0, 1, 2, 3, 17] (L' := [(0, .int .i64 a0), (1, .slice Al1 l1.length cl1), (2, .slice Al2 l2.length cl2), (3, .int .i64 a3), (17, .int .i64 a0)]) (by kernel_rfl) (by decide) ?_
  rw [Option.bind_eq_some_iff] at h
  obtain ⟨t1, ht2, h⟩ := h
  refine WL.op (op := .call { callee := (.value (.func 8)), args := #[(.tmp 17)], argTypes := #[3] }) (ty := 23) (d := some 18) (g := none) (by kernel_rfl) (by kernel_rfl) (by kernel_rfl) (Does.call (f := 8) (args := [.int .i64 a0]) (by kernel_rfl) (fun W hI => (state_New_calls a0  t1 ht2 hI))) ?_
  rintro _ _ _ (⟨hx, rfl, rfl, rfl⟩ | ⟨x4, hx, bR3, AR3_0, cR3_0, CR3_0, AR3_1, cR3_1, CR3_1, AR3_2, cR3_2, CR3_2, rfl, HR3_0, HR3_1, HR3_2, rfl, rfl⟩)
  · rw [hx] at h
    rw [Option.elim_none] at h
    clear hx
    refine WL.pure 2 3 [1, 2, 3, 18, 19] (L' := [(1, .slice Al1 l1.length cl1), (2, .slice Al2 l2.length cl2), (3, .int .i64 a3), (18, .pointer none), (19, .int .i64 a0)]) (by kernel_rfl) (by decide) ?_
    rw [Option.bind_eq_some_iff] at h
    obtain ⟨t5, ht6, h⟩ := h
    refine WL.op (op := .call { callee := (.value (.func 8)), args := #[(.tmp 19)], argTypes := #[3] }) (ty := 23) (d := some 20) (g := none) (by kernel_rfl) (by kernel_rfl) (by kernel_rfl) (Does.call (f := 8) (args := [.int .i64 a0]) (by kernel_rfl) (fun W hI => (state_New_calls a0  t5 ht6 hI))) ?_
    rintro _ _ _ (⟨hx, rfl, rfl, rfl⟩ | ⟨x8, hx, bR7, AR7_0, cR7_0, CR7_0, AR7_1, cR7_1, CR7_1, AR7_2, cR7_2, CR7_2, rfl, HR7_0, HR7_1, HR7_2, rfl, rfl⟩)
    · rw [hx] at h
      rw [Option.elim_none] at h
      clear hx
      refine WL.restQ 4 [1, 2, 3, 9, 10] (L' := [(1, .slice Al1 l1.length cl1), (2, .slice Al2 l2.length cl2), (3, .int .i64 a3), (9, .pointer none), (10, .pointer none)]) (by kernel_rfl) ?_
      refine WP.seq ?_
      refine WP.seqP [1, 2, 3, 9, 10, 34] (L' := [(1, .slice Al1 l1.length cl1), (2, .slice Al2 l2.length cl2), (3, .int .i64 a3), (9, .pointer none), (10, .pointer none), (34, .bool true)]) (by kernel_rfl) ?_
      refine WP.yes (by kernel_rfl) ?_
      refine WP.seqR ?_
      rw [Option.bind_eq_some_iff] at h
      obtain ⟨t9, ht10, h⟩ := h
      refine WL.op (op := .call { callee := (.value (.func 10)), args := #[], argTypes := #[] }) (ty := 4) (d := some 35) (g := none) (by kernel_rfl) (by kernel_rfl) (by kernel_rfl) (Does.call (f := 10) (args := []) (by kernel_rfl) (fun W hI => (grapevinelaw19_awake_calls HT k   t9 ht10 hI))) ?_
      rintro _ _ _ ⟨rfl, rfl, rfl⟩
      refine WL.restQ 1 [8] (L' := [(8, .bool t9)]) (by kernel_rfl) ?_
      refine WP.ret ?_
      refine QP.thenR ?_
      obtain rfl := Option.some.inj h
      exact QP.returned [8] [.bool t9] _ (by kernel_rfl) (by kernel_rfl) (by kernel_rfl) (fun W hI => ⟨_, _, _, rfl, ⟨rfl, rfl, rfl⟩, hI⟩)
    · rw [hx] at h
      rw [Option.elim_some] at h
      clear hx
      refine WL.restQ 4 [1, 2, 3, 9, 10] (L' := [(1, .slice Al1 l1.length cl1), (2, .slice Al2 l2.length cl2), (3, .int .i64 a3), (9, .pointer none), (10, .pointer (some ⟨bR7, 0, none⟩))]) (by kernel_rfl) ?_
      refine WP.seq ?_
      refine WP.seqP [1, 2, 3, 9, 10, 34] (L' := [(1, .slice Al1 l1.length cl1), (2, .slice Al2 l2.length cl2), (3, .int .i64 a3), (9, .pointer none), (10, .pointer (some ⟨bR7, 0, none⟩)), (34, .bool true)]) (by kernel_rfl) ?_
      refine WP.yes (by kernel_rfl) ?_
      refine WP.seqR ?_
      rw [Option.bind_eq_some_iff] at h
      obtain ⟨t13, ht14, h⟩ := h
      refine WL.op (op := .call { callee := (.value (.func 10)), args := #[], argTypes := #[] }) (ty := 4) (d := some 35) (g := none) (by kernel_rfl) (by kernel_rfl) (by kernel_rfl) (Does.call (f := 10) (args := []) (by kernel_rfl) (fun W hI => (grapevinelaw19_awake_calls HT k   t13 ht14 hI))) ?_
      rintro _ _ _ ⟨rfl, rfl, rfl⟩
      refine WL.restQ 1 [8] (L' := [(8, .bool t13)]) (by kernel_rfl) ?_
      refine WP.dropAt 3 ?_
      refine WP.dropAt 2 ?_
      refine WP.dropAt 1 ?_
      refine WP.dropAt 0 ?_
      refine WP.ret ?_
      refine QP.thenR ?_
      obtain rfl := Option.some.inj h
      exact QP.returned [8] [.bool t13] _ (by kernel_rfl) (by kernel_rfl) (by kernel_rfl) (fun W hI => ⟨_, _, _, rfl, ⟨rfl, rfl, rfl⟩, hI⟩)
  · rw [hx] at h
    rw [Option.elim_some] at h
    clear hx
    refine WL.pure 2 3 [1, 2, 3, 18, 19] (L' := [(1, .slice Al1 l1.length cl1), (2, .slice Al2 l2.length cl2), (3, .int .i64 a3), (18, .pointer (some ⟨bR3, 0, none⟩)), (19, .int .i64 a0)]) (by kernel_rfl) (by decide) ?_
    rw [Option.bind_eq_some_iff] at h
    obtain ⟨t17, ht18, h⟩ := h
    refine WL.op (op := .call { callee := (.value (.func 8)), args := #[(.tmp 19)], argTypes := #[3] }) (ty := 23) (d := some 20) (g := none) (by kernel_rfl) (by kernel_rfl) (by kernel_rfl) (Does.call (f := 8) (args := [.int .i64 a0]) (by kernel_rfl) (fun W hI => (state_New_calls a0  t17 ht18 hI))) ?_
    rintro _ _ _ (⟨hx, rfl, rfl, rfl⟩ | ⟨x20, hx, bR19, AR19_0, cR19_0, CR19_0, AR19_1, cR19_1, CR19_1, AR19_2, cR19_2, CR19_2, rfl, HR19_0, HR19_1, HR19_2, rfl, rfl⟩)
    · rw [hx] at h
      rw [Option.elim_none] at h
      clear hx
      refine WL.restQ 4 [1, 2, 3, 9, 10] (L' := [(1, .slice Al1 l1.length cl1), (2, .slice Al2 l2.length cl2), (3, .int .i64 a3), (9, .pointer (some ⟨bR3, 0, none⟩)), (10, .pointer none)]) (by kernel_rfl) ?_
      refine WP.seq ?_
      refine WP.seqP [1, 2, 3, 9, 10, 34] (L' := [(1, .slice Al1 l1.length cl1), (2, .slice Al2 l2.length cl2), (3, .int .i64 a3), (9, .pointer (some ⟨bR3, 0, none⟩)), (10, .pointer none), (34, .bool true)]) (by kernel_rfl) ?_
      refine WP.yes (by kernel_rfl) ?_
      refine WP.seqR ?_
      rw [Option.bind_eq_some_iff] at h
      obtain ⟨t21, ht22, h⟩ := h
      refine WL.op (op := .call { callee := (.value (.func 10)), args := #[], argTypes := #[] }) (ty := 4) (d := some 35) (g := none) (by kernel_rfl) (by kernel_rfl) (by kernel_rfl) (Does.call (f := 10) (args := []) (by kernel_rfl) (fun W hI => (grapevinelaw19_awake_calls HT k   t21 ht22 hI))) ?_
      rintro _ _ _ ⟨rfl, rfl, rfl⟩
      refine WL.restQ 1 [8] (L' := [(8, .bool t21)]) (by kernel_rfl) ?_
      refine WP.dropAt 3 ?_
      refine WP.dropAt 2 ?_
      refine WP.dropAt 1 ?_
      refine WP.dropAt 0 ?_
      refine WP.ret ?_
      refine QP.thenR ?_
      obtain rfl := Option.some.inj h
      exact QP.returned [8] [.bool t21] _ (by kernel_rfl) (by kernel_rfl) (by kernel_rfl) (fun W hI => ⟨_, _, _, rfl, ⟨rfl, rfl, rfl⟩, hI⟩)
    · rw [hx] at h
      rw [Option.elim_some] at h
      clear hx
      refine WL.restQ 4 [1, 2, 3, 9, 10] (L' := [(1, .slice Al1 l1.length cl1), (2, .slice Al2 l2.length cl2), (3, .int .i64 a3), (9, .pointer (some ⟨bR3, 0, none⟩)), (10, .pointer (some ⟨bR19, 0, none⟩))]) (by kernel_rfl) ?_
      refine WP.seq ?_
      rw [Option.bind_eq_some_iff] at h
      obtain ⟨os25, h, hk26⟩ := h
      refine WP.cut (fun L' G' Γ' => ∃ s25 : Bool, s25 = os25 ∧ L' = [(1, .slice Al1 l1.length cl1), (2, .slice Al2 l2.length cl2), (3, .int .i64 a3), (9, .pointer (some ⟨bR3, 0, none⟩)), (10, .pointer (some ⟨bR19, 0, none⟩)), (34, .bool s25)] ∧ G = G' ∧ [(bR19, .cells #[.slice AR19_0 x20.f0.length cR19_0, .slice AR19_1 x20.f1.length cR19_1, mpv AR19_2] 63 (0, 0))] :: CR19_0 :: CR19_1 :: CR19_2 :: [(bR3, .cells #[.slice AR3_0 x4.f0.length cR3_0, .slice AR3_1 x4.f1.length cR3_1, mpv AR3_2] 63 (0, 0))] :: CR3_0 :: CR3_1 :: CR3_2 :: Γ = Γ') ?_ ?_
      · clear hk26
        refine WP.region ?_
        refine WL.pure 0 8 [1, 2, 3, 9, 10, 27, 28] (L' := [(1, .slice Al1 l1.length cl1), (2, .slice Al2 l2.length cl2), (3, .int .i64 a3), (9, .pointer (some ⟨bR3, 0, none⟩)), (10, .pointer (some ⟨bR19, 0, none⟩)), (27, .bool false), (28, .slice Al1 l1.length cl1)]) (by kernel_rfl) (by decide) ?_
        rw [Option.bind_eq_some_iff] at h
        obtain ⟨t27, ht28, h⟩ := h
        refine WL.op (op := .call { callee := (.value (.func 9)), args := #[(.tmp 28), (.const (.int .i64 25))], argTypes := #[22, 3] }) (ty := 4) (d := some 29) (g := some (6, false)) (by kernel_rfl) (by kernel_rfl) (by kernel_rfl) (Does.call (f := 9) (args := [.slice Al1 l1.length cl1, .int .i64 25]) (by kernel_rfl) (fun W hI => (grapevinelaw19_great_calls k l1 25 Al1 cl1 Hl1 t27 ht28 hI))) ?_
        rintro _ _ _ ⟨rfl, rfl, rfl⟩
        refine WL.pure 9 11 [1, 2, 3, 9, 10, 31] (L' := [(1, .slice Al1 l1.length cl1), (2, .slice Al2 l2.length cl2), (3, .int .i64 a3), (9, .pointer (some ⟨bR3, 0, none⟩)), (10, .pointer (some ⟨bR19, 0, none⟩)), (31, .bool t27)]) (by kernel_rfl) (by decide) ?_
        refine WL.split 31 (b := t27) (by kernel_rfl) (fun hc => ?_) (fun hc => ?_)
        · replace hc := hc
          rw [if_pos hc] at h
          have hc31 := hc
          clear hc
          refine WL.rest 11 [1, 2, 3, 9, 10, 34] (L' := [(1, .slice Al1 l1.length cl1), (2, .slice Al2 l2.length cl2), (3, .int .i64 a3), (9, .pointer (some ⟨bR3, 0, none⟩)), (10, .pointer (some ⟨bR19, 0, none⟩)), (34, .bool true)]) (by kernel_rfl) ?_
          refine QP.pick [1, 2, 3, 9, 10, 34] ?_
          exact QP.meet ⟨_, Option.some.inj h, rfl, rfl, rfl⟩
        · replace hc := (Bool.eq_false_iff.1 hc)
          rw [if_neg hc] at h
          have hc31 := hc
          clear hc
          refine WL.pure 11 12 [1, 2, 3, 9, 10, 31, 32] (L' := [(1, .slice Al1 l1.length cl1), (2, .slice Al2 l2.length cl2), (3, .int .i64 a3), (9, .pointer (some ⟨bR3, 0, none⟩)), (10, .pointer (some ⟨bR19, 0, none⟩)), (31, .bool false), (32, .slice Al2 l2.length cl2)]) (by kernel_rfl) (by decide) ?_
          rw [Option.bind_eq_some_iff] at h
          obtain ⟨t32, ht33, h⟩ := h
          refine WL.op (op := .call { callee := (.value (.func 9)), args := #[(.tmp 32), (.const (.int .i64 25))], argTypes := #[22, 3] }) (ty := 4) (d := some 33) (g := some (10, false)) (by kernel_rfl) (by kernel_rfl) (by kernel_rfl) (Does.call (f := 9) (args := [.slice Al2 l2.length cl2, .int .i64 25]) (by kernel_rfl) (fun W hI => (grapevinelaw19_great_calls k l2 25 Al2 cl2 Hl2 t32 ht33 hI))) ?_
          rintro _ _ _ ⟨rfl, rfl, rfl⟩
          refine WL.rest 13 [1, 2, 3, 9, 10, 34] (L' := [(1, .slice Al1 l1.length cl1), (2, .slice Al2 l2.length cl2), (3, .int .i64 a3), (9, .pointer (some ⟨bR3, 0, none⟩)), (10, .pointer (some ⟨bR19, 0, none⟩)), (34, .bool t32)]) (by kernel_rfl) ?_
          refine QP.pick [1, 2, 3, 9, 10, 34] ?_
          exact QP.meet ⟨_, Option.some.inj h, rfl, rfl, rfl⟩
      · rintro _ _ _ ⟨s25, rfl, rfl, rfl, rfl⟩
        clear h
        replace h := hk26
        refine WP.cond (b := s25) (by kernel_rfl) (fun hc => ?_) (fun hc => ?_)
        · replace hc := hc
          rw [if_pos hc] at h
          have hc36 := hc
          clear hc
          refine WP.seqR ?_
          rw [Option.bind_eq_some_iff] at h
          obtain ⟨t37, ht38, h⟩ := h
          refine WL.op (op := .call { callee := (.value (.func 10)), args := #[], argTypes := #[] }) (ty := 4) (d := some 35) (g := none) (by kernel_rfl) (by kernel_rfl) (by kernel_rfl) (Does.call (f := 10) (args := []) (by kernel_rfl) (fun W hI => (grapevinelaw19_awake_calls HT k   t37 ht38 hI))) ?_
          rintro _ _ _ ⟨rfl, rfl, rfl⟩
          refine WL.restQ 1 [8] (L' := [(8, .bool t37)]) (by kernel_rfl) ?_
          refine WP.dropAt 7 ?_
          refine WP.dropAt 6 ?_
          refine WP.dropAt 5 ?_
          refine WP.dropAt 4 ?_
          refine WP.dropAt 3 ?_
          refine WP.dropAt 2 ?_
          refine WP.dropAt 1 ?_
          refine WP.dropAt 0 ?_
          refine WP.ret ?_
          refine QP.thenR ?_
          obtain rfl := Option.some.inj h
          exact QP.returned [8] [.bool t37] _ (by kernel_rfl) (by kernel_rfl) (by kernel_rfl) (fun W hI => ⟨_, _, _, rfl, ⟨rfl, rfl, rfl⟩, hI⟩)
        · replace hc := (Bool.eq_false_iff.1 hc)
          rw [if_neg hc] at h
          have hc36 := hc
          clear hc
          refine WP.skip ?_
          refine QP.next ?_
          refine WP.pick [1, 2, 3, 9, 10] ?_
          refine WP.seq ?_
          refine WP.seqP [1, 2, 3, 9, 10, 11] (L' := [(1, .slice Al1 l1.length cl1), (2, .slice Al2 l2.length cl2), (3, .int .i64 a3), (9, .pointer (some ⟨bR3, 0, none⟩)), (10, .pointer (some ⟨bR19, 0, none⟩)), (11, .int .i64 0)]) (by kernel_rfl) ?_
          rw [Option.bind_eq_some_iff] at h
          obtain ⟨os41, h, hk42⟩ := h
          refine WP.cutQ (fun L' G' Γ' => ∃ s41 : T63, s41 = os41 ∧ ∃ (As41_f0 : Option Addr), ∃ (cs41_f0 : Nat), ∃ (Cs41_f0 : Chunk), ∃ (As41_f1 : Option Addr), ∃ (cs41_f1 : Nat), ∃ (Cs41_f1 : Chunk), ∃ (As41_f2 : Option Addr), ∃ (cs41_f2 : Nat), ∃ (Cs41_f2 : Chunk), L' = [(2, .slice Al2 l2.length cl2), (3, .int .i64 a3), (9, .pointer (some ⟨bR3, 0, none⟩)), (10, .pointer (some ⟨bR19, 0, none⟩))] ∧ G = G' ∧ [(bR19, .cells #[.slice AR19_0 x20.f0.length cR19_0, .slice AR19_1 x20.f1.length cR19_1, mpv AR19_2] 63 (0, 0))] :: CR19_0 :: CR19_1 :: CR19_2 :: [(bR3, .cells #[.slice As41_f0 s41.f0.length cs41_f0, .slice As41_f1 s41.f1.length cs41_f1, mpv As41_f2] 63 (0, 0))] :: Cs41_f0 :: Cs41_f1 :: Cs41_f2 :: Γ = Γ' ∧ Ow (kInt .i64) G As41_f0 cs41_f0 s41.f0 Cs41_f0 ∧ Ow (kInt .i64) G As41_f1 cs41_f1 s41.f1 Cs41_f1 ∧ MpF m61 G As41_f2 cs41_f2 s41.f2 Cs41_f2) ?_ ?_
          · clear hk42
            refine WP.block ?_
            refine WP.pick [1, 2, 3, 9, 10, 11] ?_
            refine WP.loopF (fun kn45 L' G' Γ' => ∃ (y43 : Int), ∃ (y44 : T63), grapevinelaw19_StateLacks_l0 l1 kn45 y43 y44 = some os41 ∧ ∃ (Ay44_f0 : Option Addr), ∃ (cy44_f0 : Nat), ∃ (Cy44_f0 : Chunk), ∃ (Ay44_f1 : Option Addr), ∃ (cy44_f1 : Nat), ∃ (Cy44_f1 : Chunk), ∃ (Ay44_f2 : Option Addr), ∃ (cy44_f2 : Nat), ∃ (Cy44_f2 : Chunk), L' = [(1, .slice Al1 l1.length cl1), (2, .slice Al2 l2.length cl2), (3, .int .i64 a3), (9, .pointer (some ⟨bR3, 0, none⟩)), (10, .pointer (some ⟨bR19, 0, none⟩)), (11, .int .i64 y43)] ∧ G = G' ∧ [(bR19, .cells #[.slice AR19_0 x20.f0.length cR19_0, .slice AR19_1 x20.f1.length cR19_1, mpv AR19_2] 63 (0, 0))] :: CR19_0 :: CR19_1 :: CR19_2 :: [(bR3, .cells #[.slice Ay44_f0 y44.f0.length cy44_f0, .slice Ay44_f1 y44.f1.length cy44_f1, mpv Ay44_f2] 63 (0, 0))] :: Cy44_f0 :: Cy44_f1 :: Cy44_f2 :: Γ = Γ' ∧ Ow (kInt .i64) G Ay44_f0 cy44_f0 y44.f0 Cy44_f0 ∧ Ow (kInt .i64) G Ay44_f1 cy44_f1 y44.f1 Cy44_f1 ∧ MpF m61 G Ay44_f2 cy44_f2 y44.f2 Cy44_f2) ?_ k ⟨0, x4, h, AR3_0, cR3_0, CR3_0, AR3_1, cR3_1, CR3_1, AR3_2, cR3_2, CR3_2, rfl, rfl, rfl, HR3_0, HR3_1, HR3_2⟩
            clear h
            rintro kn46 _ _ _ ⟨y43, y44, h, Ay44_f0, cy44_f0, Cy44_f0, Ay44_f1, cy44_f1, Cy44_f1, Ay44_f2, cy44_f2, Cy44_f2, rfl, rfl, rfl, Hy44_f0, Hy44_f1, Hy44_f2⟩
            cases kn46 with
            | zero => exact absurd h (by simp [grapevinelaw19_StateLacks_l0])
            | succ kn46 =>
              simp only [grapevinelaw19_StateLacks_l0] at h
              refine WP.seq ?_
              refine WP.seqP [1, 2, 3, 9, 10, 11, 39] (L' := [(1, .slice Al1 l1.length cl1), (2, .slice Al2 l2.length cl2), (3, .int .i64 a3), (9, .pointer (some ⟨bR3, 0, none⟩)), (10, .pointer (some ⟨bR19, 0, none⟩)), (11, .int .i64 y43), (39, .bool (decide (y43 < (l1.length : Int))))]) (by kernel_rfl) ?_
              refine WP.cond (b := decide (y43 < (l1.length : Int))) (by kernel_rfl) (fun hc => ?_) (fun hc => ?_)
              · replace hc := of_decide_eq_true hc
                rw [if_pos hc] at h
                have hc47 := hc
                clear hc
                refine WP.skip ?_
                refine QP.next ?_
                refine WP.pick [1, 2, 3, 9, 10, 11] ?_
                refine WP.seq ?_
                refine WP.block ?_
                refine WP.region ?_
                refine WL.pure 0 3 [1, 2, 3, 9, 10, 11, 42, 43, 44] (L' := [(1, .slice Al1 l1.length cl1), (2, .slice Al2 l2.length cl2), (3, .int .i64 a3), (9, .pointer (some ⟨bR3, 0, none⟩)), (10, .pointer (some ⟨bR19, 0, none⟩)), (11, .int .i64 y43), (42, .pointer (some ⟨bR3, 0, none⟩)), (43, .slice Al1 l1.length cl1), (44, .int .i64 y43)]) (by kernel_rfl) (by decide) ?_
                by_cases hb48 : 0 ≤ y43 ∧ y43 < (l1.length : Int)
                case neg => rw [if_neg hb48] at h; cases h
                rw [if_pos hb48] at h
                refine WL.tell (op := .indexAddr 22 (.tmp 43) (.tmp 44)) (ty := 0) (d := some 45) (g := none) (by kernel_rfl) (by kernel_rfl) (by kernel_rfl) (Tells.indexAddr (A := Al1) (n := l1.length) (c := cl1) (k := .i64) (j := y43) (by kernel_rfl) (by kernel_rfl) (Hl1.isSome hb48.1 hb48.2) hb48.1 hb48.2 sl22) ?_
                refine WL.tellE (op := .load 36 (.tmp 45)) (ty := 36) (d := some 46) (g := none) (by kernel_rfl) (by kernel_rfl) (by kernel_rfl) (Hl1.load (agg := true) hb48.1 hb48.2 z36 ag36 (fun h => by cases h) (by kernel_rfl)) ?_
                rintro _ ⟨_, _, rfl, rfl, ⟨_, _, rfl, rfl, ⟨_, _, rfl, rfl, ⟨_, _, rfl, rfl, ⟨_, _, rfl, rfl, ⟨_, _, rfl, rfl, ⟨_, _, rfl, rfl, ⟨_, _, rfl, rfl, ⟨Ae49, ce49, rfl, He49⟩⟩⟩⟩⟩⟩⟩⟩⟩
                replace He49 : Rd (kInt .i64) G Ae49 ce49 ((l1.getD y43.toNat z36).f8) := He49
                refine WL.reperm (Γ' := [(bR3, .cells #[.slice Ay44_f0 y44.f0.length cy44_f0, .slice Ay44_f1 y44.f1.length cy44_f1, mpv Ay44_f2] 63 (0, 0))] :: Cy44_f0 :: Cy44_f1 :: Cy44_f2 :: [(bR19, .cells #[.slice AR19_0 x20.f0.length cR19_0, .slice AR19_1 x20.f1.length cR19_1, mpv AR19_2] 63 (0, 0))] :: CR19_0 :: CR19_1 :: CR19_2 :: Γ) (perm_sel [4, 5, 6, 7, 0, 1, 2, 3] (by kernel_rfl) rfl) ?_
                rw [Option.bind_eq_some_iff] at h
                obtain ⟨t50, ht51, h⟩ := h
                refine WL.op (op := .call { callee := (.value (.func 18)), args := #[(.tmp 42), (.tmp 46)], argTypes := #[23, 36] }) (ty := 0) (d := some 47) (g := none) (by kernel_rfl) (by kernel_rfl) (by kernel_rfl) (Does.call (f := 18) (args := [.pointer (some ⟨bR3, 0, none⟩), .agg #[.int .i64 ((l1.getD y43.toNat z36).f0), .int .i64 ((l1.getD y43.toNat z36).f1), .int .i64 ((l1.getD y43.toNat z36).f2), .int .i64 ((l1.getD y43.toNat z36).f3), .int .i64 ((l1.getD y43.toNat z36).f4), .int .i64 ((l1.getD y43.toNat z36).f5), .int .i64 ((l1.getD y43.toNat z36).f6), .string ((l1.getD y43.toNat z36).f7), .slice Ae49 ((l1.getD y43.toNat z36).f8).length ce49]]) (by kernel_rfl) (fun W hI => (grapevinelaw19_play_calls HT kn46 y44 (l1.getD y43.toNat z36) bR3 Ay44_f0 cy44_f0 Cy44_f0 Hy44_f0 Ay44_f1 cy44_f1 Cy44_f1 Hy44_f1 Ay44_f2 cy44_f2 Cy44_f2 Hy44_f2 Ae49 ce49 He49 t50 ht51 hI))) ?_
                rintro _ _ _ ⟨AR52p0_0, cR52p0_0, CR52p0_0, AR52p0_1, cR52p0_1, CR52p0_1, AR52p0_2, cR52p0_2, CR52p0_2, rfl, HR52p0_0, HR52p0_1, HR52p0_2, rfl, rfl⟩
                refine WL.rest 6 [1, 2, 3, 9, 10, 11] (L' := [(1, .slice Al1 l1.length cl1), (2, .slice Al2 l2.length cl2), (3, .int .i64 a3), (9, .pointer (some ⟨bR3, 0, none⟩)), (10, .pointer (some ⟨bR19, 0, none⟩)), (11, .int .i64 y43)]) (by kernel_rfl) ?_
                refine QP.blockN ?_
                refine QP.next ?_
                refine WP.pick [1, 2, 3, 9, 10, 11] ?_
                refine WP.regionP [1, 2, 3, 9, 10, 11] (L' := [(1, .slice Al1 l1.length cl1), (2, .slice Al2 l2.length cl2), (3, .int .i64 a3), (9, .pointer (some ⟨bR3, 0, none⟩)), (10, .pointer (some ⟨bR19, 0, none⟩)), (11, .int .i64 (IntKind.i64.wrap (y43 + 1)))]) (by kernel_rfl) ?_
                refine QP.reperm (Γ' := [(bR19, .cells #[.slice AR19_0 x20.f0.length cR19_0, .slice AR19_1 x20.f1.length cR19_1, mpv AR19_2] 63 (0, 0))] :: CR19_0 :: CR19_1 :: CR19_2 :: [(bR3, .cells #[.slice AR52p0_0 t50.f0.length cR52p0_0, .slice AR52p0_1 t50.f1.length cR52p0_1, mpv AR52p0_2] 63 (0, 0))] :: CR52p0_0 :: CR52p0_1 :: CR52p0_2 :: Γ) (perm_sel [4, 5, 6, 7, 0, 1, 2, 3] (by kernel_rfl) rfl) ?_
                refine QP.pick [1, 2, 3, 9, 10, 11] ?_
                exact QP.meet ⟨kn46, Nat.lt_succ_self _, (IntKind.i64.wrap (y43 + 1)), t50, h, AR52p0_0, cR52p0_0, CR52p0_0, AR52p0_1, cR52p0_1, CR52p0_1, AR52p0_2, cR52p0_2, CR52p0_2, rfl, rfl, rfl, HR52p0_0, HR52p0_1, HR52p0_2⟩
              · replace hc := of_decide_eq_false hc
                rw [if_neg hc] at h
                have hc47 := hc
                clear hc
                refine WP.exit ?_
                refine QP.thenE ?_
                refine QP.thenE ?_
                refine QP.blockE ?_
                refine QP.pick [2, 3, 9, 10] ?_
                exact QP.meet ⟨_, Option.some.inj h, Ay44_f0, cy44_f0, Cy44_f0, Ay44_f1, cy44_f1, Cy44_f1, Ay44_f2, cy44_f2, Cy44_f2, rfl, rfl, rfl, Hy44_f0, Hy44_f1, Hy44_f2⟩
          · rintro _ _ _ ⟨s41, rfl, As41_f0, cs41_f0, Cs41_f0, As41_f1, cs41_f1, Cs41_f1, As41_f2, cs41_f2, Cs41_f2, rfl, rfl, rfl, Hs41_f0, Hs41_f1, Hs41_f2⟩
            clear h
            replace h := hk42
            refine QP.next ?_
            refine WP.pick [2, 3, 9, 10] ?_
            refine WP.seq ?_
            refine WP.seqP [2, 3, 9, 10, 12] (L' := [(2, .slice Al2 l2.length cl2), (3, .int .i64 a3), (9, .pointer (some ⟨bR3, 0, none⟩)), (10, .pointer (some ⟨bR19, 0, none⟩)), (12, .int .i64 0)]) (by kernel_rfl) ?_
            rw [Option.bind_eq_some_iff] at h
            obtain ⟨os54, h, hk55⟩ := h
            refine WP.cutQ (fun L' G' Γ' => ∃ s54 : T63, s54 = os54 ∧ ∃ (As54_f0 : Option Addr), ∃ (cs54_f0 : Nat), ∃ (Cs54_f0 : Chunk), ∃ (As54_f1 : Option Addr), ∃ (cs54_f1 : Nat), ∃ (Cs54_f1 : Chunk), ∃ (As54_f2 : Option Addr), ∃ (cs54_f2 : Nat), ∃ (Cs54_f2 : Chunk), L' = [(3, .int .i64 a3), (9, .pointer (some ⟨bR3, 0, none⟩)), (10, .pointer (some ⟨bR19, 0, none⟩))] ∧ G = G' ∧ [(bR19, .cells #[.slice As54_f0 s54.f0.length cs54_f0, .slice As54_f1 s54.f1.length cs54_f1, mpv As54_f2] 63 (0, 0))] :: Cs54_f0 :: Cs54_f1 :: Cs54_f2 :: [(bR3, .cells #[.slice As41_f0 s41.f0.length cs41_f0, .slice As41_f1 s41.f1.length cs41_f1, mpv As41_f2] 63 (0, 0))] :: Cs41_f0 :: Cs41_f1 :: Cs41_f2 :: Γ = Γ' ∧ Ow (kInt .i64) G As54_f0 cs54_f0 s54.f0 Cs54_f0 ∧ Ow (kInt .i64) G As54_f1 cs54_f1 s54.f1 Cs54_f1 ∧ MpF m61 G As54_f2 cs54_f2 s54.f2 Cs54_f2) ?_ ?_
            · clear hk55
              refine WP.block ?_
              refine WP.pick [2, 3, 9, 10, 12] ?_
              refine WP.loopF (fun kn58 L' G' Γ' => ∃ (y56 : Int), ∃ (y57 : T63), grapevinelaw19_StateLacks_l1 l2 kn58 y56 y57 = some os54 ∧ ∃ (Ay57_f0 : Option Addr), ∃ (cy57_f0 : Nat), ∃ (Cy57_f0 : Chunk), ∃ (Ay57_f1 : Option Addr), ∃ (cy57_f1 : Nat), ∃ (Cy57_f1 : Chunk), ∃ (Ay57_f2 : Option Addr), ∃ (cy57_f2 : Nat), ∃ (Cy57_f2 : Chunk), L' = [(2, .slice Al2 l2.length cl2), (3, .int .i64 a3), (9, .pointer (some ⟨bR3, 0, none⟩)), (10, .pointer (some ⟨bR19, 0, none⟩)), (12, .int .i64 y56)] ∧ G = G' ∧ [(bR19, .cells #[.slice Ay57_f0 y57.f0.length cy57_f0, .slice Ay57_f1 y57.f1.length cy57_f1, mpv Ay57_f2] 63 (0, 0))] :: Cy57_f0 :: Cy57_f1 :: Cy57_f2 :: [(bR3, .cells #[.slice As41_f0 s41.f0.length cs41_f0, .slice As41_f1 s41.f1.length cs41_f1, mpv As41_f2] 63 (0, 0))] :: Cs41_f0 :: Cs41_f1 :: Cs41_f2 :: Γ = Γ' ∧ Ow (kInt .i64) G Ay57_f0 cy57_f0 y57.f0 Cy57_f0 ∧ Ow (kInt .i64) G Ay57_f1 cy57_f1 y57.f1 Cy57_f1 ∧ MpF m61 G Ay57_f2 cy57_f2 y57.f2 Cy57_f2) ?_ k ⟨0, x20, h, AR19_0, cR19_0, CR19_0, AR19_1, cR19_1, CR19_1, AR19_2, cR19_2, CR19_2, rfl, rfl, rfl, HR19_0, HR19_1, HR19_2⟩
              clear h
              rintro kn59 _ _ _ ⟨y56, y57, h, Ay57_f0, cy57_f0, Cy57_f0, Ay57_f1, cy57_f1, Cy57_f1, Ay57_f2, cy57_f2, Cy57_f2, rfl, rfl, rfl, Hy57_f0, Hy57_f1, Hy57_f2⟩
              cases kn59 with
              | zero => exact absurd h (by simp [grapevinelaw19_StateLacks_l1])
              | succ kn59 =>
                simp only [grapevinelaw19_StateLacks_l1] at h
                refine WP.seq ?_
                refine WP.seqP [2, 3, 9, 10, 12, 51] (L' := [(2, .slice Al2 l2.length cl2), (3, .int .i64 a3), (9, .pointer (some ⟨bR3, 0, none⟩)), (10, .pointer (some ⟨bR19, 0, none⟩)), (12, .int .i64 y56), (51, .bool (decide (y56 < (l2.length : Int))))]) (by kernel_rfl) ?_
                refine WP.cond (b := decide (y56 < (l2.length : Int))) (by kernel_rfl) (fun hc => ?_) (fun hc => ?_)
                · replace hc := of_decide_eq_true hc
                  rw [if_pos hc] at h
                  have hc60 := hc
                  clear hc
                  refine WP.skip ?_
                  refine QP.next ?_
                  refine WP.pick [2, 3, 9, 10, 12] ?_
                  refine WP.seq ?_
                  refine WP.block ?_
                  refine WP.region ?_
                  refine WL.pure 0 3 [2, 3, 9, 10, 12, 54, 55, 56] (L' := [(2, .slice Al2 l2.length cl2), (3, .int .i64 a3), (9, .pointer (some ⟨bR3, 0, none⟩)), (10, .pointer (some ⟨bR19, 0, none⟩)), (12, .int .i64 y56), (54, .pointer (some ⟨bR19, 0, none⟩)), (55, .slice Al2 l2.length cl2), (56, .int .i64 y56)]) (by kernel_rfl) (by decide) ?_
                  by_cases hb61 : 0 ≤ y56 ∧ y56 < (l2.length : Int)
                  case neg => rw [if_neg hb61] at h; cases h
                  rw [if_pos hb61] at h
                  refine WL.tell (op := .indexAddr 22 (.tmp 55) (.tmp 56)) (ty := 0) (d := some 57) (g := none) (by kernel_rfl) (by kernel_rfl) (by kernel_rfl) (Tells.indexAddr (A := Al2) (n := l2.length) (c := cl2) (k := .i64) (j := y56) (by kernel_rfl) (by kernel_rfl) (Hl2.isSome hb61.1 hb61.2) hb61.1 hb61.2 sl22) ?_
                  refine WL.tellE (op := .load 36 (.tmp 57)) (ty := 36) (d := some 58) (g := none) (by kernel_rfl) (by kernel_rfl) (by kernel_rfl) (Hl2.load (agg := true) hb61.1 hb61.2 z36 ag36 (fun h => by cases h) (by kernel_rfl)) ?_
                  rintro _ ⟨_, _, rfl, rfl, ⟨_, _, rfl, rfl, ⟨_, _, rfl, rfl, ⟨_, _, rfl, rfl, ⟨_, _, rfl, rfl, ⟨_, _, rfl, rfl, ⟨_, _, rfl, rfl, ⟨_, _, rfl, rfl, ⟨Ae62, ce62, rfl, He62⟩⟩⟩⟩⟩⟩⟩⟩⟩
                  replace He62 : Rd (kInt .i64) G Ae62 ce62 ((l2.getD y56.toNat z36).f8) := He62
                  rw [Option.bind_eq_some_iff] at h
                  obtain ⟨t63, ht64, h⟩ := h
                  refine WL.op (op := .call { callee := (.value (.func 18)), args := #[(.tmp 54), (.tmp 58)], argTypes := #[23, 36] }) (ty := 0) (d := some 59) (g := none) (by kernel_rfl) (by kernel_rfl) (by kernel_rfl) (Does.call (f := 18) (args := [.pointer (some ⟨bR19, 0, none⟩), .agg #[.int .i64 ((l2.getD y56.toNat z36).f0), .int .i64 ((l2.getD y56.toNat z36).f1), .int .i64 ((l2.getD y56.toNat z36).f2), .int .i64 ((l2.getD y56.toNat z36).f3), .int .i64 ((l2.getD y56.toNat z36).f4), .int .i64 ((l2.getD y56.toNat z36).f5), .int .i64 ((l2.getD y56.toNat z36).f6), .string ((l2.getD y56.toNat z36).f7), .slice Ae62 ((l2.getD y56.toNat z36).f8).length ce62]]) (by kernel_rfl) (fun W hI => (grapevinelaw19_play_calls HT kn59 y57 (l2.getD y56.toNat z36) bR19 Ay57_f0 cy57_f0 Cy57_f0 Hy57_f0 Ay57_f1 cy57_f1 Cy57_f1 Hy57_f1 Ay57_f2 cy57_f2 Cy57_f2 Hy57_f2 Ae62 ce62 He62 t63 ht64 hI))) ?_
                  rintro _ _ _ ⟨AR65p0_0, cR65p0_0, CR65p0_0, AR65p0_1, cR65p0_1, CR65p0_1, AR65p0_2, cR65p0_2, CR65p0_2, rfl, HR65p0_0, HR65p0_1, HR65p0_2, rfl, rfl⟩
                  refine WL.rest 6 [2, 3, 9, 10, 12] (L' := [(2, .slice Al2 l2.length cl2), (3, .int .i64 a3), (9, .pointer (some ⟨bR3, 0, none⟩)), (10, .pointer (some ⟨bR19, 0, none⟩)), (12, .int .i64 y56)]) (by kernel_rfl) ?_
                  refine QP.blockN ?_
                  refine QP.next ?_
                  refine WP.pick [2, 3, 9, 10, 12] ?_
                  refine WP.regionP [2, 3, 9, 10, 12] (L' := [(2, .slice Al2 l2.length cl2), (3, .int .i64 a3), (9, .pointer (some ⟨bR3, 0, none⟩)), (10, .pointer (some ⟨bR19, 0, none⟩)), (12, .int .i64 (IntKind.i64.wrap (y56 + 1)))]) (by kernel_rfl) ?_
                  refine QP.pick [2, 3, 9, 10, 12] ?_
                  exact QP.meet ⟨kn59, Nat.lt_succ_self _, (IntKind.i64.wrap (y56 + 1)), t63, h, AR65p0_0, cR65p0_0, CR65p0_0, AR65p0_1, cR65p0_1, CR65p0_1, AR65p0_2, cR65p0_2, CR65p0_2, rfl, rfl, rfl, HR65p0_0, HR65p0_1, HR65p0_2⟩
                · replace hc := of_decide_eq_false hc
                  rw [if_neg hc] at h
                  have hc60 := hc
                  clear hc
                  refine WP.exit ?_
                  refine QP.thenE ?_
                  refine QP.thenE ?_
                  refine QP.blockE ?_
                  refine QP.pick [3, 9, 10] ?_
                  exact QP.meet ⟨_, Option.some.inj h, Ay57_f0, cy57_f0, Cy57_f0, Ay57_f1, cy57_f1, Cy57_f1, Ay57_f2, cy57_f2, Cy57_f2, rfl, rfl, rfl, Hy57_f0, Hy57_f1, Hy57_f2⟩
            · rintro _ _ _ ⟨s54, rfl, As54_f0, cs54_f0, Cs54_f0, As54_f1, cs54_f1, Cs54_f1, As54_f2, cs54_f2, Cs54_f2, rfl, rfl, rfl, Hs54_f0, Hs54_f1, Hs54_f2⟩
              clear h
              replace h := hk55
              refine QP.next ?_
              refine WP.pick [3, 9, 10] ?_
              refine WP.seqP [3, 9, 10] (L' := [(3, .int .i64 (IntKind.i64.wrap (1 + (IntKind.i64.wrap (Int.tmod (IntKind.u64.wrap a3) 5))))), (9, .pointer (some ⟨bR3, 0, none⟩)), (10, .pointer (some ⟨bR19, 0, none⟩))]) (by kernel_rfl) ?_
              obtain ⟨v67, hv68, h⟩ := Option.bind_eq_some_iff.1 h
              replace hv68 := Option.some.inj hv68
              refine WP.reput 3 (v := .int .i64 (IntKind.i64.wrap (1 + (IntKind.i64.wrap (Int.tmod (IntKind.u64.wrap a3) 5))))) (v' := .int .i64 v67) (by kernel_rfl) (by subst hv68; rfl) ?_
              refine WP.pick [3, 9, 10] ?_
              refine WP.seqR ?_
              refine WL.pure 0 2 [3, 9, 10, 65, 66] (L' := [(3, .int .i64 v67), (9, .pointer (some ⟨bR3, 0, none⟩)), (10, .pointer (some ⟨bR19, 0, none⟩)), (65, .pointer (some ⟨bR3, 0, none⟩)), (66, .pointer (some ⟨bR19, 0, none⟩))]) (by kernel_rfl) (by decide) ?_
              refine WL.op (op := .buildSlice 52 2 #[(0, (.tmp 65)), (1, (.tmp 66))]) (ty := 52) (d := some 67) (g := none) (by kernel_rfl) (by kernel_rfl) (by kernel_rfl) (Does.new (o := .cells #[.pointer (some ⟨bR3, 0, none⟩), .pointer (some ⟨bR19, 0, none⟩)] 23 (0, 0)) (v := fun r => .slice (some ⟨r, 0, none⟩) 2 2) (fun r => by kernel_rfl)) ?_
              rintro _ _ _ ⟨b69, rfl, rfl, rfl⟩
              refine WL.reperm (Γ' := [(b69, .cells #[.pointer (some ⟨bR3, 0, none⟩), .pointer (some ⟨bR19, 0, none⟩)] 23 (0, 0))] :: [(bR3, .cells #[.slice As41_f0 s41.f0.length cs41_f0, .slice As41_f1 s41.f1.length cs41_f1, mpv As41_f2] 63 (0, 0))] :: Cs41_f0 :: Cs41_f1 :: Cs41_f2 :: [(bR19, .cells #[.slice As54_f0 s54.f0.length cs54_f0, .slice As54_f1 s54.f1.length cs54_f1, mpv As54_f2] 63 (0, 0))] :: Cs54_f0 :: Cs54_f1 :: Cs54_f2 :: Γ) (perm_sel [0, 5, 6, 7, 8, 1, 2, 3, 4] (by kernel_rfl) rfl) ?_
              rw [Option.bind_eq_some_iff] at h
              obtain ⟨t70, ht71, h⟩ := h
              refine WL.op (op := .call { callee := (.value (.func 24)), args := #[(.tmp 67)], argTypes := #[52] }) (ty := 23) (d := some 68) (g := none) (by kernel_rfl) (by kernel_rfl) (by kernel_rfl) (Does.call (f := 24) (args := [.slice (some ⟨b69, 0, none⟩) 2 2]) (by kernel_rfl) (fun W hI => (state_Join_calls k s41 s54 b69 bR3 As41_f0 cs41_f0 Cs41_f0 Hs41_f0 As41_f1 cs41_f1 Cs41_f1 Hs41_f1 As41_f2 cs41_f2 Cs41_f2 Hs41_f2 bR19 As54_f0 cs54_f0 Cs54_f0 Hs54_f0 As54_f1 cs54_f1 Cs54_f1 Hs54_f1 As54_f2 cs54_f2 Cs54_f2 Hs54_f2 t70 ht71 hI))) ?_
              rintro _ _ _ (⟨hx, rfl, rfl, rfl⟩ | ⟨x73, hx, bR72, AR72_0, cR72_0, CR72_0, AR72_1, cR72_1, CR72_1, AR72_2, cR72_2, CR72_2, rfl, HR72_0, HR72_1, HR72_2, rfl, rfl⟩)
              · rw [hx] at h
                rw [Option.elim_none] at h
                clear hx
                refine WL.restQ 4 [3, 9, 10, 13] (L' := [(3, .int .i64 v67), (9, .pointer (some ⟨bR3, 0, none⟩)), (10, .pointer (some ⟨bR19, 0, none⟩)), (13, .pointer none)]) (by kernel_rfl) ?_
                refine WP.dropAt 0 ?_
                refine WP.seq ?_
                refine WP.seqP [3, 9, 10, 13, 14] (L' := [(3, .int .i64 v67), (9, .pointer (some ⟨bR3, 0, none⟩)), (10, .pointer (some ⟨bR19, 0, none⟩)), (13, .pointer none), (14, .int .i64 0)]) (by kernel_rfl) ?_
                rw [Option.bind_eq_some_iff] at h
                obtain ⟨os74, h, hk75⟩ := h
                refine WP.cutQ (fun L' G' Γ' => ∃ s74 : T63, Sum.inr s74 = os74 ∧ ∃ (As74_f0 : Option Addr), ∃ (cs74_f0 : Nat), ∃ (Cs74_f0 : Chunk), ∃ (As74_f1 : Option Addr), ∃ (cs74_f1 : Nat), ∃ (Cs74_f1 : Chunk), ∃ (As74_f2 : Option Addr), ∃ (cs74_f2 : Nat), ∃ (Cs74_f2 : Chunk), L' = [(9, .pointer (some ⟨bR3, 0, none⟩)), (10, .pointer (some ⟨bR19, 0, none⟩)), (13, .pointer none)] ∧ G = G' ∧ [(bR3, .cells #[.slice As74_f0 s74.f0.length cs74_f0, .slice As74_f1 s74.f1.length cs74_f1, mpv As74_f2] 63 (0, 0))] :: Cs74_f0 :: Cs74_f1 :: Cs74_f2 :: [(bR19, .cells #[.slice As54_f0 s54.f0.length cs54_f0, .slice As54_f1 s54.f1.length cs54_f1, mpv As54_f2] 63 (0, 0))] :: Cs54_f0 :: Cs54_f1 :: Cs54_f2 :: Γ = Γ' ∧ Ow (kInt .i64) G As74_f0 cs74_f0 s74.f0 Cs74_f0 ∧ Ow (kInt .i64) G As74_f1 cs74_f1 s74.f1 Cs74_f1 ∧ MpF m61 G As74_f2 cs74_f2 s74.f2 Cs74_f2) ?_ ?_
                · skip
                  refine WP.block ?_
                  refine WP.pick [3, 9, 10, 13, 14] ?_
                  refine WP.loopF (fun kn78 L' G' Γ' => ∃ (y76 : Int), ∃ (y77 : T63), grapevinelaw19_StateLacks_l2 s54 v67 kn78 y76 y77 = some os74 ∧ ∃ (Ay77_f0 : Option Addr), ∃ (cy77_f0 : Nat), ∃ (Cy77_f0 : Chunk), ∃ (Ay77_f1 : Option Addr), ∃ (cy77_f1 : Nat), ∃ (Cy77_f1 : Chunk), ∃ (Ay77_f2 : Option Addr), ∃ (cy77_f2 : Nat), ∃ (Cy77_f2 : Chunk), L' = [(3, .int .i64 v67), (9, .pointer (some ⟨bR3, 0, none⟩)), (10, .pointer (some ⟨bR19, 0, none⟩)), (13, .pointer none), (14, .int .i64 y76)] ∧ G = G' ∧ [(bR3, .cells #[.slice Ay77_f0 y77.f0.length cy77_f0, .slice Ay77_f1 y77.f1.length cy77_f1, mpv Ay77_f2] 63 (0, 0))] :: Cy77_f0 :: Cy77_f1 :: Cy77_f2 :: [(bR19, .cells #[.slice As54_f0 s54.f0.length cs54_f0, .slice As54_f1 s54.f1.length cs54_f1, mpv As54_f2] 63 (0, 0))] :: Cs54_f0 :: Cs54_f1 :: Cs54_f2 :: Γ = Γ' ∧ Ow (kInt .i64) G Ay77_f0 cy77_f0 y77.f0 Cy77_f0 ∧ Ow (kInt .i64) G Ay77_f1 cy77_f1 y77.f1 Cy77_f1 ∧ MpF m61 G Ay77_f2 cy77_f2 y77.f2 Cy77_f2) ?_ k ⟨0, s41, h, As41_f0, cs41_f0, Cs41_f0, As41_f1, cs41_f1, Cs41_f1, As41_f2, cs41_f2, Cs41_f2, rfl, rfl, rfl, Hs41_f0, Hs41_f1, Hs41_f2⟩
                  clear h
                  rintro kn79 _ _ _ ⟨y76, y77, h, Ay77_f0, cy77_f0, Cy77_f0, Ay77_f1, cy77_f1, Cy77_f1, Ay77_f2, cy77_f2, Cy77_f2, rfl, rfl, rfl, Hy77_f0, Hy77_f1, Hy77_f2⟩
                  cases kn79 with
                  | zero => exact absurd h (by simp [grapevinelaw19_StateLacks_l2])
                  | succ kn79 =>
                    simp only [grapevinelaw19_StateLacks_l2] at h
                    refine WP.seq ?_
                    refine WP.seqP [3, 9, 10, 13, 14, 70] (L' := [(3, .int .i64 v67), (9, .pointer (some ⟨bR3, 0, none⟩)), (10, .pointer (some ⟨bR19, 0, none⟩)), (13, .pointer none), (14, .int .i64 y76), (70, .bool (decide (y76 < 200)))]) (by kernel_rfl) ?_
                    refine WP.cond (b := decide (y76 < 200)) (by kernel_rfl) (fun hc => ?_) (fun hc => ?_)
                    · replace hc := of_decide_eq_true hc
                      rw [if_pos hc] at h
                      have hc80 := hc
                      clear hc
                      refine WP.skip ?_
                      refine QP.next ?_
                      refine WP.pick [3, 9, 10, 13, 14] ?_
                      refine WP.seq ?_
                      refine WP.block ?_
                      refine WP.seqR ?_
                      refine WL.pure 0 2 [3, 9, 10, 13, 14, 73, 74] (L' := [(3, .int .i64 v67), (9, .pointer (some ⟨bR3, 0, none⟩)), (10, .pointer (some ⟨bR19, 0, none⟩)), (13, .pointer none), (14, .int .i64 y76), (73, .pointer (some ⟨bR3, 0, none⟩)), (74, .pointer (some ⟨bR19, 0, none⟩))]) (by kernel_rfl) (by decide) ?_
                      refine WL.reperm (Γ' := [(bR19, .cells #[.slice As54_f0 s54.f0.length cs54_f0, .slice As54_f1 s54.f1.length cs54_f1, mpv As54_f2] 63 (0, 0))] :: Cs54_f0 :: Cs54_f1 :: Cs54_f2 :: [(bR3, .cells #[.slice Ay77_f0 y77.f0.length cy77_f0, .slice Ay77_f1 y77.f1.length cy77_f1, mpv Ay77_f2] 63 (0, 0))] :: Cy77_f0 :: Cy77_f1 :: Cy77_f2 :: Γ) (perm_sel [4, 5, 6, 7, 0, 1, 2, 3] (by kernel_rfl) rfl) ?_
                      rw [Option.bind_eq_some_iff] at h
                      obtain ⟨t81, ht82, h⟩ := h
                      refine WL.op (op := .call { callee := (.value (.func 12)), args := #[(.tmp 74)], argTypes := #[23] }) (ty := 27) (d := some 75) (g := none) (by kernel_rfl) (by kernel_rfl) (by kernel_rfl) (Does.call (f := 12) (args := [.pointer (some ⟨bR19, 0, none⟩)]) (by kernel_rfl) (fun W hI => (state_State_W_calls s54 bR19 As54_f0 cs54_f0 Cs54_f0 Hs54_f0 As54_f1 cs54_f1 Cs54_f1 Hs54_f1 As54_f2 cs54_f2 Cs54_f2 Hs54_f2 t81 ht82 hI))) ?_
                      rintro _ _ _ ⟨AR83, cR83, CR83, rfl, HR83, rfl, rfl⟩
                      refine WL.reperm (Γ' := [(bR3, .cells #[.slice Ay77_f0 y77.f0.length cy77_f0, .slice Ay77_f1 y77.f1.length cy77_f1, mpv Ay77_f2] 63 (0, 0))] :: Cy77_f0 :: Cy77_f1 :: Cy77_f2 :: CR83 :: [(bR19, .cells #[.slice As54_f0 s54.f0.length cs54_f0, .slice As54_f1 s54.f1.length cs54_f1, mpv As54_f2] 63 (0, 0))] :: Cs54_f0 :: Cs54_f1 :: Cs54_f2 :: Γ) (perm_sel [5, 6, 7, 8, 0, 1, 2, 3, 4] (by kernel_rfl) rfl) ?_
                      rw [Option.bind_eq_some_iff] at h
                      obtain ⟨t85, ht86, h⟩ := h
                      refine WL.op (op := .call { callee := (.value (.func 15)), args := #[(.tmp 73), (.tmp 75)], argTypes := #[23, 27] }) (ty := 3) (d := some 76) (g := none) (by kernel_rfl) (by kernel_rfl) (by kernel_rfl) (Does.call (Φ := fun v' G' Γ' => ∃ (AR87p0_0 : Option Addr), ∃ (cR87p0_0 : Nat), ∃ (CR87p0_0 : Chunk), ∃ (AR87p0_1 : Option Addr), ∃ (cR87p0_1 : Nat), ∃ (CR87p0_1 : Chunk), ∃ (AR87p0_2 : Option Addr), ∃ (cR87p0_2 : Nat), ∃ (CR87p0_2 : Chunk), v' = .int .i64 t85.1 ∧ Ow (kInt .i64) G AR87p0_0 cR87p0_0 t85.2.f0 CR87p0_0 ∧ Ow (kInt .i64) G AR87p0_1 cR87p0_1 t85.2.f1 CR87p0_1 ∧ MpF m61 G AR87p0_2 cR87p0_2 t85.2.f2 CR87p0_2 ∧ G = G' ∧ [(bR3, .cells #[.slice AR87p0_0 t85.2.f0.length cR87p0_0, .slice AR87p0_1 t85.2.f1.length cR87p0_1, mpv AR87p0_2] 63 (0, 0))] :: CR87p0_0 :: CR87p0_1 :: CR87p0_2 :: CR83 :: [(bR19, .cells #[.slice As54_f0 s54.f0.length cs54_f0, .slice As54_f1 s54.f1.length cs54_f1, mpv As54_f2] 63 (0, 0))] :: Cs54_f0 :: Cs54_f1 :: Cs54_f2 :: Γ = Γ') (f := 15) (args := [.pointer (some ⟨bR3, 0, none⟩), .slice AR83 t81.length cR83]) (by kernel_rfl) (fun W hI => (Calls.lendN (Φ := fun v' N => ∃ (AR87p0_0 : Option Addr), ∃ (cR87p0_0 : Nat), ∃ (CR87p0_0 : Chunk), ∃ (AR87p0_1 : Option Addr), ∃ (cR87p0_1 : Nat), ∃ (CR87p0_1 : Chunk), ∃ (AR87p0_2 : Option Addr), ∃ (cR87p0_2 : Nat), ∃ (CR87p0_2 : Chunk), v' = .int .i64 t85.1 ∧ Ow (kInt .i64) G AR87p0_0 cR87p0_0 t85.2.f0 CR87p0_0 ∧ Ow (kInt .i64) G AR87p0_1 cR87p0_1 t85.2.f1 CR87p0_1 ∧ MpF m61 G AR87p0_2 cR87p0_2 t85.2.f2 CR87p0_2 ∧ N = [[(bR3, .cells #[.slice AR87p0_0 t85.2.f0.length cR87p0_0, .slice AR87p0_1 t85.2.f1.length cR87p0_1, mpv AR87p0_2] 63 (0, 0))], CR87p0_0, CR87p0_1, CR87p0_2]) (H := [[(bR3, .cells #[.slice Ay77_f0 y77.f0.length cy77_f0, .slice Ay77_f1 y77.f1.length cy77_f1, mpv Ay77_f2] 63 (0, 0))], Cy77_f0, Cy77_f1, Cy77_f2]) (i := 0) rfl hI (fun _ e l89 nl89 hI => by subst e; exact (((state_State_Raise_calls kn79 y77 t81 bR3 Ay77_f0 cy77_f0 Cy77_f0 (Hy77_f0.mono l89) Ay77_f1 cy77_f1 Cy77_f1 (Hy77_f1.mono l89) Ay77_f2 cy77_f2 Cy77_f2 (Hy77_f2.mono l89) AR83 cR83 (HR83.rdN l89 nl89) t85 ht86 hI)).mono fun _ _ hr => by obtain ⟨_, _, _, rfl, hd, hI⟩ := hr; obtain ⟨AR87p0_0, cR87p0_0, CR87p0_0, AR87p0_1, cR87p0_1, CR87p0_1, AR87p0_2, cR87p0_2, CR87p0_2, rfl, HR87p0_0, HR87p0_1, HR87p0_2, rfl, rfl⟩ := hd; exact ⟨_, _, _, rfl, ⟨[[(bR3, .cells #[.slice AR87p0_0 t85.2.f0.length cR87p0_0, .slice AR87p0_1 t85.2.f1.length cR87p0_1, mpv AR87p0_2] 63 (0, 0))], CR87p0_0, CR87p0_1, CR87p0_2], ⟨AR87p0_0, cR87p0_0, CR87p0_0, AR87p0_1, cR87p0_1, CR87p0_1, AR87p0_2, cR87p0_2, CR87p0_2, rfl, (HR87p0_0.flat (kInt_flat _)), (HR87p0_1.flat (kInt_flat _)), (HR87p0_2.flat ()), rfl⟩, rfl, rfl⟩, hI⟩))).mono fun _ _ hr => by obtain ⟨_, _, _, rfl, ⟨_, hd, rfl, rfl⟩, hI⟩ := hr; obtain ⟨AR87p0_0, cR87p0_0, CR87p0_0, AR87p0_1, cR87p0_1, CR87p0_1, AR87p0_2, cR87p0_2, CR87p0_2, rfl, HR87p0_0, HR87p0_1, HR87p0_2, rfl⟩ := hd; exact ⟨_, _, _, rfl, ⟨AR87p0_0, cR87p0_0, CR87p0_0, AR87p0_1, cR87p0_1, CR87p0_1, AR87p0_2, cR87p0_2, CR87p0_2, rfl, HR87p0_0, HR87p0_1, HR87p0_2, rfl, rfl⟩, hI⟩)) ?_
                      rintro _ _ _ ⟨AR87p0_0, cR87p0_0, CR87p0_0, AR87p0_1, cR87p0_1, CR87p0_1, AR87p0_2, cR87p0_2, CR87p0_2, rfl, HR87p0_0, HR87p0_1, HR87p0_2, rfl, rfl⟩
                      refine WL.restQ 4 [3, 9, 10, 13, 14] (L' := [(3, .int .i64 v67), (9, .pointer (some ⟨bR3, 0, none⟩)), (10, .pointer (some ⟨bR19, 0, none⟩)), (13, .pointer none), (14, .int .i64 y76)]) (by kernel_rfl) ?_
                      refine WP.dropAt 4 ?_
                      refine WP.seqR ?_
                      refine WL.pure 0 2 [3, 9, 10, 13, 14, 77, 78] (L' := [(3, .int .i64 v67), (9, .pointer (some ⟨bR3, 0, none⟩)), (10, .pointer (some ⟨bR19, 0, none⟩)), (13, .pointer none), (14, .int .i64 y76), (77, .pointer (some ⟨bR19, 0, none⟩)), (78, .pointer (some ⟨bR3, 0, none⟩))]) (by kernel_rfl) (by decide) ?_
                      rw [Option.bind_eq_some_iff] at h
                      obtain ⟨t90, ht91, h⟩ := h
                      refine WL.op (op := .call { callee := (.value (.func 11)), args := #[(.tmp 78)], argTypes := #[23] }) (ty := 27) (d := some 79) (g := none) (by kernel_rfl) (by kernel_rfl) (by kernel_rfl) (Does.call (f := 11) (args := [.pointer (some ⟨bR3, 0, none⟩)]) (by kernel_rfl) (fun W hI => (state_State_V_calls t85.2 bR3 AR87p0_0 cR87p0_0 CR87p0_0 HR87p0_0 AR87p0_1 cR87p0_1 CR87p0_1 HR87p0_1 AR87p0_2 cR87p0_2 CR87p0_2 HR87p0_2 t90 ht91 hI))) ?_
                      rintro _ _ _ ⟨AR92, cR92, CR92, rfl, HR92, rfl, rfl⟩
                      refine WL.pure 3 4 [3, 9, 10, 13, 14, 77, 79, 80] (L' := [(3, .int .i64 v67), (9, .pointer (some ⟨bR3, 0, none⟩)), (10, .pointer (some ⟨bR19, 0, none⟩)), (13, .pointer none), (14, .int .i64 y76), (77, .pointer (some ⟨bR19, 0, none⟩)), (79, .slice AR92 t90.length cR92), (80, .pointer (some ⟨bR3, 0, none⟩))]) (by kernel_rfl) (by decide) ?_
                      refine WL.reperm (Γ' := [(bR3, .cells #[.slice AR87p0_0 t85.2.f0.length cR87p0_0, .slice AR87p0_1 t85.2.f1.length cR87p0_1, mpv AR87p0_2] 63 (0, 0))] :: CR87p0_0 :: CR87p0_1 :: CR87p0_2 :: CR92 :: [(bR19, .cells #[.slice As54_f0 s54.f0.length cs54_f0, .slice As54_f1 s54.f1.length cs54_f1, mpv As54_f2] 63 (0, 0))] :: Cs54_f0 :: Cs54_f1 :: Cs54_f2 :: Γ) (perm_sel [1, 2, 3, 4, 0] (by kernel_rfl) rfl) ?_
                      rw [Option.bind_eq_some_iff] at h
                      obtain ⟨t94, ht95, h⟩ := h
                      refine WL.op (op := .call { callee := (.value (.func 12)), args := #[(.tmp 80)], argTypes := #[23] }) (ty := 27) (d := some 81) (g := none) (by kernel_rfl) (by kernel_rfl) (by kernel_rfl) (Does.call (f := 12) (args := [.pointer (some ⟨bR3, 0, none⟩)]) (by kernel_rfl) (fun W hI => (state_State_W_calls t85.2 bR3 AR87p0_0 cR87p0_0 CR87p0_0 HR87p0_0 AR87p0_1 cR87p0_1 CR87p0_1 HR87p0_1 AR87p0_2 cR87p0_2 CR87p0_2 HR87p0_2 t94 ht95 hI))) ?_
                      rintro _ _ _ ⟨AR96, cR96, CR96, rfl, HR96, rfl, rfl⟩
                      refine WL.reperm (Γ' := [(bR19, .cells #[.slice As54_f0 s54.f0.length cs54_f0, .slice As54_f1 s54.f1.length cs54_f1, mpv As54_f2] 63 (0, 0))] :: Cs54_f0 :: Cs54_f1 :: Cs54_f2 :: CR96 :: [(bR3, .cells #[.slice AR87p0_0 t85.2.f0.length cR87p0_0, .slice AR87p0_1 t85.2.f1.length cR87p0_1, mpv AR87p0_2] 63 (0, 0))] :: CR87p0_0 :: CR87p0_1 :: CR87p0_2 :: CR92 :: Γ) (perm_sel [6, 7, 8, 9, 0, 1, 2, 3, 4, 5] (by kernel_rfl) rfl) ?_
                      rw [Option.bind_eq_some_iff] at h
                      obtain ⟨t98, ht99, h⟩ := h
                      refine WL.op (op := .call { callee := (.value (.func 27)), args := #[(.tmp 77), (.tmp 79), (.tmp 81)], argTypes := #[23, 27, 27] }) (ty := 45) (d := some 82) (g := none) (by kernel_rfl) (by kernel_rfl) (by kernel_rfl) (Does.call (Φ := fun v' G' Γ' => ∃ (AR100 : Option Addr), ∃ (cR100 : Nat), ∃ (CR100 : Chunk), v' = .slice AR100 t98.length cR100 ∧ Ow k34 G AR100 cR100 t98 CR100 ∧ G = G' ∧ CR100 :: [(bR19, .cells #[.slice As54_f0 s54.f0.length cs54_f0, .slice As54_f1 s54.f1.length cs54_f1, mpv As54_f2] 63 (0, 0))] :: Cs54_f0 :: Cs54_f1 :: Cs54_f2 :: CR96 :: [(bR3, .cells #[.slice AR87p0_0 t85.2.f0.length cR87p0_0, .slice AR87p0_1 t85.2.f1.length cR87p0_1, mpv AR87p0_2] 63 (0, 0))] :: CR87p0_0 :: CR87p0_1 :: CR87p0_2 :: CR92 :: Γ = Γ') (f := 27) (args := [.pointer (some ⟨bR19, 0, none⟩), .slice AR92 t90.length cR92, .slice AR96 t94.length cR96]) (by kernel_rfl) (fun W hI => (Calls.lendN (Φ := fun v' N => ∃ (AR100 : Option Addr), ∃ (cR100 : Nat), ∃ (CR100 : Chunk), v' = .slice AR100 t98.length cR100 ∧ Ow k34 G AR100 cR100 t98 CR100 ∧ N = [CR100, [(bR19, .cells #[.slice As54_f0 s54.f0.length cs54_f0, .slice As54_f1 s54.f1.length cs54_f1, mpv As54_f2] 63 (0, 0))], Cs54_f0, Cs54_f1, Cs54_f2]) (H := [[(bR19, .cells #[.slice As54_f0 s54.f0.length cs54_f0, .slice As54_f1 s54.f1.length cs54_f1, mpv As54_f2] 63 (0, 0))], Cs54_f0, Cs54_f1, Cs54_f2]) (i := 5) rfl hI (fun _ e l102 nl102 hI => by subst e; exact Calls.lendN (Φ := fun v' N => ∃ (AR100 : Option Addr), ∃ (cR100 : Nat), ∃ (CR100 : Chunk), v' = .slice AR100 t98.length cR100 ∧ Ow k34 G AR100 cR100 t98 CR100 ∧ N = [CR100, [(bR19, .cells #[.slice As54_f0 s54.f0.length cs54_f0, .slice As54_f1 s54.f1.length cs54_f1, mpv As54_f2] 63 (0, 0))], Cs54_f0, Cs54_f1, Cs54_f2]) (H := [[(bR19, .cells #[.slice As54_f0 s54.f0.length cs54_f0, .slice As54_f1 s54.f1.length cs54_f1, mpv As54_f2] 63 (0, 0))], Cs54_f0, Cs54_f1, Cs54_f2]) (i := 0) rfl hI (fun _ e l103 nl103 hI => by subst e; exact (((state_State_Lacks_calls kn79 s54 t90 t94 bR19 As54_f0 cs54_f0 Cs54_f0 ((Hs54_f0.mono l102).mono l103) As54_f1 cs54_f1 Cs54_f1 ((Hs54_f1.mono l102).mono l103) As54_f2 cs54_f2 Cs54_f2 ((Hs54_f2.mono l102).mono l103) AR92 cR92 ((HR92.rdN l102 nl102).mono l103) AR96 cR96 ((HR96.mono l102).rdN l103 nl103) t98 ht99 hI)).mono fun _ _ hr => by obtain ⟨_, _, _, rfl, hd, hI⟩ := hr; obtain ⟨AR100, cR100, CR100, rfl, HR100, rfl, rfl⟩ := hd; exact ⟨_, _, _, rfl, ⟨[CR100, [(bR19, .cells #[.slice As54_f0 s54.f0.length cs54_f0, .slice As54_f1 s54.f1.length cs54_f1, mpv As54_f2] 63 (0, 0))], Cs54_f0, Cs54_f1, Cs54_f2], ⟨AR100, cR100, CR100, rfl, (HR100.flat (kFlat_flat _ _ _ _)), rfl⟩, rfl, rfl⟩, hI⟩)))).mono fun _ _ hr => by obtain ⟨_, _, _, rfl, ⟨_, hd, rfl, rfl⟩, hI⟩ := hr; obtain ⟨AR100, cR100, CR100, rfl, HR100, rfl⟩ := hd; exact ⟨_, _, _, rfl, ⟨AR100, cR100, CR100, rfl, HR100, rfl, rfl⟩, hI⟩)) ?_
                      rintro _ _ _ ⟨AR100, cR100, CR100, rfl, HR100, rfl, rfl⟩
                      refine WL.restQ 6 [3, 9, 10, 13, 14, 15] (L' := [(3, .int .i64 v67), (9, .pointer (some ⟨bR3, 0, none⟩)), (10, .pointer (some ⟨bR19, 0, none⟩)), (13, .pointer none), (14, .int .i64 y76), (15, .slice AR100 t98.length cR100)]) (by kernel_rfl) ?_
                      refine WP.dropAt 10 ?_
                      refine WP.dropAt 5 ?_
                      refine WP.seq ?_
                      refine WP.seqP [3, 9, 10, 13, 14, 15, 85] (L' := [(3, .int .i64 v67), (9, .pointer (some ⟨bR3, 0, none⟩)), (10, .pointer (some ⟨bR19, 0, none⟩)), (13, .pointer none), (14, .int .i64 y76), (15, .slice AR100 t98.length cR100), (85, .bool ((t98.length : Int) == 0))]) (by kernel_rfl) ?_
                      refine WP.cond (b := ((t98.length : Int) == 0)) (by kernel_rfl) (fun hc => ?_) (fun hc => ?_)
                      · replace hc := eq_of_beq hc
                        rw [if_pos hc] at h
                        have hc104 := hc
                        clear hc
                        refine WP.exit ?_
                        refine QP.thenE ?_
                        refine QP.blockM (by rfl) ?_
                        refine QP.thenE ?_
                        refine QP.thenE ?_
                        refine QP.blockE ?_
                        refine QP.dropAt 0 ?_
                        refine QP.reperm (Γ' := [(bR3, .cells #[.slice AR87p0_0 t85.2.f0.length cR87p0_0, .slice AR87p0_1 t85.2.f1.length cR87p0_1, mpv AR87p0_2] 63 (0, 0))] :: CR87p0_0 :: CR87p0_1 :: CR87p0_2 :: [(bR19, .cells #[.slice As54_f0 s54.f0.length cs54_f0, .slice As54_f1 s54.f1.length cs54_f1, mpv As54_f2] 63 (0, 0))] :: Cs54_f0 :: Cs54_f1 :: Cs54_f2 :: Γ) (perm_sel [4, 5, 6, 7, 0, 1, 2, 3] (by kernel_rfl) rfl) ?_
                        refine QP.pick [9, 10, 13] ?_
                        exact QP.meet ⟨_, Option.some.inj h, AR87p0_0, cR87p0_0, CR87p0_0, AR87p0_1, cR87p0_1, CR87p0_1, AR87p0_2, cR87p0_2, CR87p0_2, rfl, rfl, rfl, HR87p0_0, HR87p0_1, HR87p0_2⟩
                      · replace hc := ne_of_beq_false hc
                        rw [if_neg hc] at h
                        have hc104 := hc
                        clear hc
                        refine WP.skip ?_
                        refine QP.next ?_
                        refine WP.pick [3, 9, 10, 13, 14, 15] ?_
                        refine WP.seqP [3, 9, 10, 13, 14, 15, 16] (L' := [(3, .int .i64 v67), (9, .pointer (some ⟨bR3, 0, none⟩)), (10, .pointer (some ⟨bR19, 0, none⟩)), (13, .pointer none), (14, .int .i64 y76), (15, .slice AR100 t98.length cR100), (16, .int .i64 0)]) (by kernel_rfl) ?_
                        rw [Option.bind_eq_some_iff] at h
                        obtain ⟨os105, h, hk106⟩ := h
                        refine WP.cutQ (fun L' G' Γ' => ∃ s105 : T63, Sum.inr s105 = os105 ∧ ∃ (As105_f0 : Option Addr), ∃ (cs105_f0 : Nat), ∃ (Cs105_f0 : Chunk), ∃ (As105_f1 : Option Addr), ∃ (cs105_f1 : Nat), ∃ (Cs105_f1 : Chunk), ∃ (As105_f2 : Option Addr), ∃ (cs105_f2 : Nat), ∃ (Cs105_f2 : Chunk), L' = [(3, .int .i64 v67), (9, .pointer (some ⟨bR3, 0, none⟩)), (10, .pointer (some ⟨bR19, 0, none⟩)), (13, .pointer none), (14, .int .i64 y76)] ∧ G = G' ∧ [(bR19, .cells #[.slice As54_f0 s54.f0.length cs54_f0, .slice As54_f1 s54.f1.length cs54_f1, mpv As54_f2] 63 (0, 0))] :: Cs54_f0 :: Cs54_f1 :: Cs54_f2 :: [(bR3, .cells #[.slice As105_f0 s105.f0.length cs105_f0, .slice As105_f1 s105.f1.length cs105_f1, mpv As105_f2] 63 (0, 0))] :: Cs105_f0 :: Cs105_f1 :: Cs105_f2 :: Γ = Γ' ∧ Ow (kInt .i64) G As105_f0 cs105_f0 s105.f0 Cs105_f0 ∧ Ow (kInt .i64) G As105_f1 cs105_f1 s105.f1 Cs105_f1 ∧ MpF m61 G As105_f2 cs105_f2 s105.f2 Cs105_f2) ?_ ?_
                        · skip
                          refine WP.block ?_
                          refine WP.pick [3, 9, 10, 13, 14, 15, 16] ?_
                          refine WP.loopF (fun kn109 L' G' Γ' => ∃ (y107 : Int), ∃ (y108 : T63), grapevinelaw19_StateLacks_l3 v67 t98 kn109 y107 y108 = some os105 ∧ ∃ (Ay108_f0 : Option Addr), ∃ (cy108_f0 : Nat), ∃ (Cy108_f0 : Chunk), ∃ (Ay108_f1 : Option Addr), ∃ (cy108_f1 : Nat), ∃ (Cy108_f1 : Chunk), ∃ (Ay108_f2 : Option Addr), ∃ (cy108_f2 : Nat), ∃ (Cy108_f2 : Chunk), L' = [(3, .int .i64 v67), (9, .pointer (some ⟨bR3, 0, none⟩)), (10, .pointer (some ⟨bR19, 0, none⟩)), (13, .pointer none), (14, .int .i64 y76), (15, .slice AR100 t98.length cR100), (16, .int .i64 y107)] ∧ G = G' ∧ CR100 :: [(bR19, .cells #[.slice As54_f0 s54.f0.length cs54_f0, .slice As54_f1 s54.f1.length cs54_f1, mpv As54_f2] 63 (0, 0))] :: Cs54_f0 :: Cs54_f1 :: Cs54_f2 :: [(bR3, .cells #[.slice Ay108_f0 y108.f0.length cy108_f0, .slice Ay108_f1 y108.f1.length cy108_f1, mpv Ay108_f2] 63 (0, 0))] :: Cy108_f0 :: Cy108_f1 :: Cy108_f2 :: Γ = Γ' ∧ Ow (kInt .i64) G Ay108_f0 cy108_f0 y108.f0 Cy108_f0 ∧ Ow (kInt .i64) G Ay108_f1 cy108_f1 y108.f1 Cy108_f1 ∧ MpF m61 G Ay108_f2 cy108_f2 y108.f2 Cy108_f2) ?_ kn79 ⟨0, t85.2, h, AR87p0_0, cR87p0_0, CR87p0_0, AR87p0_1, cR87p0_1, CR87p0_1, AR87p0_2, cR87p0_2, CR87p0_2, rfl, rfl, rfl, HR87p0_0, HR87p0_1, HR87p0_2⟩
                          clear h
                          rintro kn110 _ _ _ ⟨y107, y108, h, Ay108_f0, cy108_f0, Cy108_f0, Ay108_f1, cy108_f1, Cy108_f1, Ay108_f2, cy108_f2, Cy108_f2, rfl, rfl, rfl, Hy108_f0, Hy108_f1, Hy108_f2⟩
                          cases kn110 with
                          | zero => exact absurd h (by simp [grapevinelaw19_StateLacks_l3])
                          | succ kn110 =>
                            simp only [grapevinelaw19_StateLacks_l3] at h
                            refine WP.seq ?_
                            rw [Option.bind_eq_some_iff] at h
                            obtain ⟨os111, h, hk112⟩ := h
                            refine WP.cut (fun L' G' Γ' => ∃ s111 : Bool, s111 = os111 ∧ L' = [(3, .int .i64 v67), (9, .pointer (some ⟨bR3, 0, none⟩)), (10, .pointer (some ⟨bR19, 0, none⟩)), (13, .pointer none), (14, .int .i64 y76), (15, .slice AR100 t98.length cR100), (16, .int .i64 y107), (94, .bool s111)] ∧ G = G' ∧ CR100 :: [(bR19, .cells #[.slice As54_f0 s54.f0.length cs54_f0, .slice As54_f1 s54.f1.length cs54_f1, mpv As54_f2] 63 (0, 0))] :: Cs54_f0 :: Cs54_f1 :: Cs54_f2 :: [(bR3, .cells #[.slice Ay108_f0 y108.f0.length cy108_f0, .slice Ay108_f1 y108.f1.length cy108_f1, mpv Ay108_f2] 63 (0, 0))] :: Cy108_f0 :: Cy108_f1 :: Cy108_f2 :: Γ = Γ') ?_ ?_
                            · clear hk112
                              refine WP.region ?_
                              refine WL.pure 0 5 [3, 9, 10, 13, 14, 15, 16, 90] (L' := [(3, .int .i64 v67), (9, .pointer (some ⟨bR3, 0, none⟩)), (10, .pointer (some ⟨bR19, 0, none⟩)), (13, .pointer none), (14, .int .i64 y76), (15, .slice AR100 t98.length cR100), (16, .int .i64 y107), (90, .bool (decide (y107 < (t98.length : Int))))]) (by kernel_rfl) (by decide) ?_
                              refine WL.split 90 (b := decide (y107 < (t98.length : Int))) (by kernel_rfl) (fun hc => ?_) (fun hc => ?_)
                              · replace hc := of_decide_eq_true hc
                                rw [if_pos hc] at h
                                have hc113 := hc
                                clear hc
                                refine WL.rest 5 [3, 9, 10, 13, 14, 15, 16, 94] (L' := [(3, .int .i64 v67), (9, .pointer (some ⟨bR3, 0, none⟩)), (10, .pointer (some ⟨bR19, 0, none⟩)), (13, .pointer none), (14, .int .i64 y76), (15, .slice AR100 t98.length cR100), (16, .int .i64 y107), (94, .bool (decide (y107 < v67)))]) (by kernel_rfl) ?_
                                refine QP.pick [3, 9, 10, 13, 14, 15, 16, 94] ?_
                                exact QP.meet ⟨_, Option.some.inj h, rfl, rfl, rfl⟩
                              · replace hc := of_decide_eq_false hc
                                rw [if_neg hc] at h
                                have hc113 := hc
                                clear hc
                                refine WL.rest 5 [3, 9, 10, 13, 14, 15, 16, 94] (L' := [(3, .int .i64 v67), (9, .pointer (some ⟨bR3, 0, none⟩)), (10, .pointer (some ⟨bR19, 0, none⟩)), (13, .pointer none), (14, .int .i64 y76), (15, .slice AR100 t98.length cR100), (16, .int .i64 y107), (94, .bool false)]) (by kernel_rfl) ?_
                                refine QP.pick [3, 9, 10, 13, 14, 15, 16, 94] ?_
                                exact QP.meet ⟨_, Option.some.inj h, rfl, rfl, rfl⟩
                            · rintro _ _ _ ⟨s111, rfl, rfl, rfl, rfl⟩
                              clear h
                              replace h := hk112
                              refine WP.cond (b := s111) (by kernel_rfl) (fun hc => ?_) (fun hc => ?_)
                              · replace hc := hc
                                rw [if_pos hc] at h
                                have hc114 := hc
                                clear hc
                                refine WP.skip ?_
                                refine QP.next ?_
                                refine WP.pick [3, 9, 10, 13, 14, 15, 16] ?_
                                refine WP.seq ?_
                                refine WP.block ?_
                                refine WP.seqR ?_
                                refine WL.pure 0 3 [3, 9, 10, 13, 14, 15, 16, 97, 98, 99] (L' := [(3, .int .i64 v67), (9, .pointer (some ⟨bR3, 0, none⟩)), (10, .pointer (some ⟨bR19, 0, none⟩)), (13, .pointer none), (14, .int .i64 y76), (15, .slice AR100 t98.length cR100), (16, .int .i64 y107), (97, .pointer (some ⟨bR3, 0, none⟩)), (98, .slice AR100 t98.length cR100), (99, .int .i64 y107)]) (by kernel_rfl) (by decide) ?_
                                by_cases hb115 : 0 ≤ y107 ∧ y107 < (t98.length : Int)
                                case neg => rw [if_neg hb115] at h; cases h
                                rw [if_pos hb115] at h
                                refine WL.tell (op := .indexAddr 45 (.tmp 98) (.tmp 99)) (ty := 0) (d := some 100) (g := none) (by kernel_rfl) (by kernel_rfl) (by kernel_rfl) (Tells.indexAddr (A := AR100) (n := t98.length) (c := cR100) (k := .i64) (j := y107) (by kernel_rfl) (by kernel_rfl) (HR100.isSome hb115.1 hb115.2) hb115.1 hb115.2 sl45) ?_
                                refine WL.tellE (op := .load 34 (.tmp 100)) (ty := 34) (d := some 101) (g := none) (by kernel_rfl) (by kernel_rfl) (by kernel_rfl) (HR100.load (i := 0) rfl (agg := true) hb115.1 hb115.2 z34 ag34 (fun h => by cases h) (by kernel_rfl)) ?_
                                rintro _ rfl
                                refine WL.reperm (Γ' := [(bR3, .cells #[.slice Ay108_f0 y108.f0.length cy108_f0, .slice Ay108_f1 y108.f1.length cy108_f1, mpv Ay108_f2] 63 (0, 0))] :: Cy108_f0 :: Cy108_f1 :: Cy108_f2 :: CR100 :: [(bR19, .cells #[.slice As54_f0 s54.f0.length cs54_f0, .slice As54_f1 s54.f1.length cs54_f1, mpv As54_f2] 63 (0, 0))] :: Cs54_f0 :: Cs54_f1 :: Cs54_f2 :: Γ) (perm_sel [5, 6, 7, 8, 0, 1, 2, 3, 4] (by kernel_rfl) rfl) ?_
                                rw [Option.bind_eq_some_iff] at h
                                obtain ⟨t116, ht117, h⟩ := h
                                refine WL.op (op := .call { callee := (.value (.func 13)), args := #[(.tmp 97), (.tmp 101)], argTypes := #[23, 34] }) (ty := 37) (d := some 102) (g := none) (by kernel_rfl) (by kernel_rfl) (by kernel_rfl) (Does.call (f := 13) (args := [.pointer (some ⟨bR3, 0, none⟩), .agg #[.int .i64 ((t98.getD y107.toNat z34).f0), .int .i64 ((t98.getD y107.toNat z34).f1), .int .i64 ((t98.getD y107.toNat z34).f2), .int .i64 ((t98.getD y107.toNat z34).f3), .string ((t98.getD y107.toNat z34).f4)]]) (by kernel_rfl) (fun W hI => (state_State_Accept_calls HT y108 (t98.getD y107.toNat z34) bR3 Ay108_f0 cy108_f0 Cy108_f0 Hy108_f0 Ay108_f1 cy108_f1 Cy108_f1 Hy108_f1 Ay108_f2 cy108_f2 Cy108_f2 Hy108_f2 t116 ht117 hI))) ?_
                                rintro _ _ _ ⟨AR118p0_0, cR118p0_0, CR118p0_0, AR118p0_1, cR118p0_1, CR118p0_1, AR118p0_2, cR118p0_2, CR118p0_2, rfl, HR118p0_0, HR118p0_1, HR118p0_2, rfl, rfl⟩
                                refine WL.restQ 6 [3, 9, 10, 13, 14, 15, 16, 103] (L' := [(3, .int .i64 v67), (9, .pointer (some ⟨bR3, 0, none⟩)), (10, .pointer (some ⟨bR19, 0, none⟩)), (13, .pointer none), (14, .int .i64 y76), (15, .slice AR100 t98.length cR100), (16, .int .i64 y107), (103, .bool (t116.1 != 0))]) (by kernel_rfl) ?_
                                refine WP.cond (b := (t116.1 != 0)) (by kernel_rfl) (fun hc => ?_) (fun hc => ?_)
                                · replace hc := (bne_iff_ne.1 hc)
                                  rw [if_pos hc] at h
                                  have hc120 := hc
                                  clear hc
                                  refine WP.seqP [8] (L' := [(8, .bool false)]) (by kernel_rfl) ?_
                                  refine WP.dropAt 8 ?_
                                  refine WP.dropAt 7 ?_
                                  refine WP.dropAt 6 ?_
                                  refine WP.dropAt 5 ?_
                                  refine WP.dropAt 4 ?_
                                  refine WP.dropAt 3 ?_
                                  refine WP.dropAt 2 ?_
                                  refine WP.dropAt 1 ?_
                                  refine WP.dropAt 0 ?_
                                  refine WP.ret ?_
                                  refine QP.blockR ?_
                                  refine QP.thenR ?_
                                  refine QP.thenR ?_
                                  refine QP.blockR ?_
                                  refine QP.thenR ?_
                                  refine QP.blockR ?_
                                  refine QP.thenR ?_
                                  refine QP.thenR ?_
                                  refine QP.blockR ?_
                                  refine QP.thenR ?_
                                  refine QP.thenR ?_
                                  obtain rfl := Option.some.inj h
                                  obtain rfl := Option.some.inj (show some (Sum.inl _) = some _ from hk106)
                                  obtain rfl := Option.some.inj (show some _ = some _ from hk75)
                                  exact QP.returned [8] [.bool false] _ (by kernel_rfl) (by kernel_rfl) (by kernel_rfl) (fun W hI => ⟨_, _, _, rfl, ⟨rfl, rfl, rfl⟩, hI⟩)
                                · replace hc := (not_not_intro (bne_eq_false_iff_eq.1 hc))
                                  rw [if_neg hc] at h
                                  have hc120 := hc
                                  clear hc
                                  refine WP.skip ?_
                                  refine QP.blockN ?_
                                  refine QP.next ?_
                                  refine WP.pick [3, 9, 10, 13, 14, 15, 16] ?_
                                  refine WP.regionP [3, 9, 10, 13, 14, 15, 16] (L' := [(3, .int .i64 v67), (9, .pointer (some ⟨bR3, 0, none⟩)), (10, .pointer (some ⟨bR19, 0, none⟩)), (13, .pointer none), (14, .int .i64 y76), (15, .slice AR100 t98.length cR100), (16, .int .i64 (IntKind.i64.wrap (y107 + 1)))]) (by kernel_rfl) ?_
                                  refine QP.reperm (Γ' := CR100 :: [(bR19, .cells #[.slice As54_f0 s54.f0.length cs54_f0, .slice As54_f1 s54.f1.length cs54_f1, mpv As54_f2] 63 (0, 0))] :: Cs54_f0 :: Cs54_f1 :: Cs54_f2 :: [(bR3, .cells #[.slice AR118p0_0 t116.2.f0.length cR118p0_0, .slice AR118p0_1 t116.2.f1.length cR118p0_1, mpv AR118p0_2] 63 (0, 0))] :: CR118p0_0 :: CR118p0_1 :: CR118p0_2 :: Γ) (perm_sel [4, 5, 6, 7, 8, 0, 1, 2, 3] (by kernel_rfl) rfl) ?_
                                  refine QP.pick [3, 9, 10, 13, 14, 15, 16] ?_
                                  exact QP.meet ⟨kn110, Nat.lt_succ_self _, (IntKind.i64.wrap (y107 + 1)), t116.2, h, AR118p0_0, cR118p0_0, CR118p0_0, AR118p0_1, cR118p0_1, CR118p0_1, AR118p0_2, cR118p0_2, CR118p0_2, rfl, rfl, rfl, HR118p0_0, HR118p0_1, HR118p0_2⟩
                              · replace hc := (Bool.eq_false_iff.1 hc)
                                rw [if_neg hc] at h
                                have hc114 := hc
                                clear hc
                                refine WP.exit ?_
                                refine QP.thenE ?_
                                refine QP.thenE ?_
                                refine QP.blockE ?_
                                refine QP.dropAt 0 ?_
                                refine QP.pick [3, 9, 10, 13, 14] ?_
                                exact QP.meet ⟨_, Option.some.inj h, Ay108_f0, cy108_f0, Cy108_f0, Ay108_f1, cy108_f1, Cy108_f1, Ay108_f2, cy108_f2, Cy108_f2, rfl, rfl, rfl, Hy108_f0, Hy108_f1, Hy108_f2⟩
                        · rintro _ _ _ ⟨s105, rfl, As105_f0, cs105_f0, Cs105_f0, As105_f1, cs105_f1, Cs105_f1, As105_f2, cs105_f2, Cs105_f2, rfl, rfl, rfl, Hs105_f0, Hs105_f1, Hs105_f2⟩
                          clear h
                          replace h := hk106
                          dsimp only at h
                          refine QP.blockN ?_
                          refine QP.next ?_
                          refine WP.pick [3, 9, 10, 13, 14] ?_
                          refine WP.regionP [3, 9, 10, 13, 14] (L' := [(3, .int .i64 v67), (9, .pointer (some ⟨bR3, 0, none⟩)), (10, .pointer (some ⟨bR19, 0, none⟩)), (13, .pointer none), (14, .int .i64 (IntKind.i64.wrap (y76 + 1)))]) (by kernel_rfl) ?_
                          refine QP.reperm (Γ' := [(bR3, .cells #[.slice As105_f0 s105.f0.length cs105_f0, .slice As105_f1 s105.f1.length cs105_f1, mpv As105_f2] 63 (0, 0))] :: Cs105_f0 :: Cs105_f1 :: Cs105_f2 :: [(bR19, .cells #[.slice As54_f0 s54.f0.length cs54_f0, .slice As54_f1 s54.f1.length cs54_f1, mpv As54_f2] 63 (0, 0))] :: Cs54_f0 :: Cs54_f1 :: Cs54_f2 :: Γ) (perm_sel [4, 5, 6, 7, 0, 1, 2, 3] (by kernel_rfl) rfl) ?_
                          refine QP.pick [3, 9, 10, 13, 14] ?_
                          exact QP.meet ⟨kn79, Nat.lt_succ_self _, (IntKind.i64.wrap (y76 + 1)), s105, h, As105_f0, cs105_f0, Cs105_f0, As105_f1, cs105_f1, Cs105_f1, As105_f2, cs105_f2, Cs105_f2, rfl, rfl, rfl, Hs105_f0, Hs105_f1, Hs105_f2⟩
                    · replace hc := of_decide_eq_false hc
                      rw [if_neg hc] at h
                      have hc80 := hc
                      clear hc
                      refine WP.exit ?_
                      refine QP.thenE ?_
                      refine QP.thenE ?_
                      refine QP.blockE ?_
                      refine QP.pick [9, 10, 13] ?_
                      exact QP.meet ⟨_, Option.some.inj h, Ay77_f0, cy77_f0, Cy77_f0, Ay77_f1, cy77_f1, Cy77_f1, Ay77_f2, cy77_f2, Cy77_f2, rfl, rfl, rfl, Hy77_f0, Hy77_f1, Hy77_f2⟩
                · rintro _ _ _ ⟨s74, rfl, As74_f0, cs74_f0, Cs74_f0, As74_f1, cs74_f1, Cs74_f1, As74_f2, cs74_f2, Cs74_f2, rfl, rfl, rfl, Hs74_f0, Hs74_f1, Hs74_f2⟩
                  clear h
                  replace h := hk75
                  dsimp only at h
                  refine QP.next ?_
                  refine WP.pick [9, 10, 13] ?_
                  rw [Option.bind_eq_some_iff] at h
                  obtain ⟨os121, h, hk122⟩ := h
                  refine WP.cut (fun L' G' Γ' => ∃ s121 : Bool, s121 = os121 ∧ L' = [(8, .bool s121)] ∧ G = G' ∧ Γ = Γ') ?_ ?_
                  · clear hk122
                    refine WP.region ?_
                    refine WL.pure 0 2 [9, 10, 104, 105] (L' := [(9, .pointer (some ⟨bR3, 0, none⟩)), (10, .pointer (some ⟨bR19, 0, none⟩)), (104, .pointer (some ⟨bR3, 0, none⟩)), (105, .pointer none)]) (by kernel_rfl) (by decide) ?_
                    rw [Option.bind_eq_some_iff] at h
                    obtain ⟨t123, ht124, h⟩ := h
                    refine WL.op (op := .call { callee := (.value (.func 25)), args := #[(.tmp 104), (.tmp 105)], argTypes := #[23, 23] }) (ty := 4) (d := some 106) (g := none) (by kernel_rfl) (by kernel_rfl) (by kernel_rfl) (Does.call (f := 25) (args := [.pointer (some ⟨bR3, 0, none⟩), .pointer none]) (by kernel_rfl) (fun W hI => (state_Same_36_calls s74 bR3 As74_f0 cs74_f0 Cs74_f0 Hs74_f0 As74_f1 cs74_f1 Cs74_f1 Hs74_f1 As74_f2 cs74_f2 Cs74_f2 Hs74_f2 t123 ht124 hI))) ?_
                    rintro _ _ _ ⟨rfl, rfl, rfl⟩
                    refine WL.pure 3 4 [9, 10, 107] (L' := [(9, .pointer (some ⟨bR3, 0, none⟩)), (10, .pointer (some ⟨bR19, 0, none⟩)), (107, .bool t123)]) (by kernel_rfl) (by decide) ?_
                    refine WL.split 107 (b := t123) (by kernel_rfl) (fun hc => ?_) (fun hc => ?_)
                    · replace hc := hc
                      rw [if_pos hc] at h
                      have hc127 := hc
                      clear hc
                      refine WL.pure 4 6 [9, 107, 108, 109] (L' := [(9, .pointer (some ⟨bR3, 0, none⟩)), (107, .bool true), (108, .pointer (some ⟨bR19, 0, none⟩)), (109, .pointer (some ⟨bR3, 0, none⟩))]) (by kernel_rfl) (by decide) ?_
                      rw [Option.bind_eq_some_iff] at h
                      obtain ⟨t128, ht129, h⟩ := h
                      refine WL.op (op := .call { callee := (.value (.func 11)), args := #[(.tmp 109)], argTypes := #[23] }) (ty := 27) (d := some 110) (g := some (3, true)) (by kernel_rfl) (by kernel_rfl) (by kernel_rfl) (Does.call (f := 11) (args := [.pointer (some ⟨bR3, 0, none⟩)]) (by kernel_rfl) (fun W hI => (state_State_V_calls s74 bR3 As74_f0 cs74_f0 Cs74_f0 Hs74_f0 As74_f1 cs74_f1 Cs74_f1 Hs74_f1 As74_f2 cs74_f2 Cs74_f2 Hs74_f2 t128 ht129 hI))) ?_
                      rintro _ _ _ ⟨AR130, cR130, CR130, rfl, HR130, rfl, rfl⟩
                      refine WL.pure 7 8 [107, 108, 110, 111] (L' := [(107, .bool true), (108, .pointer (some ⟨bR19, 0, none⟩)), (110, .slice AR130 t128.length cR130), (111, .pointer (some ⟨bR3, 0, none⟩))]) (by kernel_rfl) (by decide) ?_
                      refine WL.reperm (Γ' := [(bR3, .cells #[.slice As74_f0 s74.f0.length cs74_f0, .slice As74_f1 s74.f1.length cs74_f1, mpv As74_f2] 63 (0, 0))] :: Cs74_f0 :: Cs74_f1 :: Cs74_f2 :: CR130 :: [(bR19, .cells #[.slice As54_f0 s54.f0.length cs54_f0, .slice As54_f1 s54.f1.length cs54_f1, mpv As54_f2] 63 (0, 0))] :: Cs54_f0 :: Cs54_f1 :: Cs54_f2 :: Γ) (perm_sel [1, 2, 3, 4, 0] (by kernel_rfl) rfl) ?_
                      rw [Option.bind_eq_some_iff] at h
                      obtain ⟨t132, ht133, h⟩ := h
                      refine WL.op (op := .call { callee := (.value (.func 12)), args := #[(.tmp 111)], argTypes := #[23] }) (ty := 27) (d := some 112) (g := some (3, true)) (by kernel_rfl) (by kernel_rfl) (by kernel_rfl) (Does.call (f := 12) (args := [.pointer (some ⟨bR3, 0, none⟩)]) (by kernel_rfl) (fun W hI => (state_State_W_calls s74 bR3 As74_f0 cs74_f0 Cs74_f0 Hs74_f0 As74_f1 cs74_f1 Cs74_f1 Hs74_f1 As74_f2 cs74_f2 Cs74_f2 Hs74_f2 t132 ht133 hI))) ?_
                      rintro _ _ _ ⟨AR134, cR134, CR134, rfl, HR134, rfl, rfl⟩
                      refine WL.reperm (Γ' := [(bR19, .cells #[.slice As54_f0 s54.f0.length cs54_f0, .slice As54_f1 s54.f1.length cs54_f1, mpv As54_f2] 63 (0, 0))] :: Cs54_f0 :: Cs54_f1 :: Cs54_f2 :: CR134 :: [(bR3, .cells #[.slice As74_f0 s74.f0.length cs74_f0, .slice As74_f1 s74.f1.length cs74_f1, mpv As74_f2] 63 (0, 0))] :: Cs74_f0 :: Cs74_f1 :: Cs74_f2 :: CR130 :: Γ) (perm_sel [6, 7, 8, 9, 0, 1, 2, 3, 4, 5] (by kernel_rfl) rfl) ?_
                      rw [Option.bind_eq_some_iff] at h
                      obtain ⟨t136, ht137, h⟩ := h
                      refine WL.op (op := .call { callee := (.value (.func 27)), args := #[(.tmp 108), (.tmp 110), (.tmp 112)], argTypes := #[23, 27, 27] }) (ty := 45) (d := some 113) (g := some (3, true)) (by kernel_rfl) (by kernel_rfl) (by kernel_rfl) (Does.call (Φ := fun v' G' Γ' => ∃ (AR138 : Option Addr), ∃ (cR138 : Nat), ∃ (CR138 : Chunk), v' = .slice AR138 t136.length cR138 ∧ Ow k34 G AR138 cR138 t136 CR138 ∧ G = G' ∧ CR138 :: [(bR19, .cells #[.slice As54_f0 s54.f0.length cs54_f0, .slice As54_f1 s54.f1.length cs54_f1, mpv As54_f2] 63 (0, 0))] :: Cs54_f0 :: Cs54_f1 :: Cs54_f2 :: CR134 :: [(bR3, .cells #[.slice As74_f0 s74.f0.length cs74_f0, .slice As74_f1 s74.f1.length cs74_f1, mpv As74_f2] 63 (0, 0))] :: Cs74_f0 :: Cs74_f1 :: Cs74_f2 :: CR130 :: Γ = Γ') (f := 27) (args := [.pointer (some ⟨bR19, 0, none⟩), .slice AR130 t128.length cR130, .slice AR134 t132.length cR134]) (by kernel_rfl) (fun W hI => (Calls.lendN (Φ := fun v' N => ∃ (AR138 : Option Addr), ∃ (cR138 : Nat), ∃ (CR138 : Chunk), v' = .slice AR138 t136.length cR138 ∧ Ow k34 G AR138 cR138 t136 CR138 ∧ N = [CR138, [(bR19, .cells #[.slice As54_f0 s54.f0.length cs54_f0, .slice As54_f1 s54.f1.length cs54_f1, mpv As54_f2] 63 (0, 0))], Cs54_f0, Cs54_f1, Cs54_f2]) (H := [[(bR19, .cells #[.slice As54_f0 s54.f0.length cs54_f0, .slice As54_f1 s54.f1.length cs54_f1, mpv As54_f2] 63 (0, 0))], Cs54_f0, Cs54_f1, Cs54_f2]) (i := 5) rfl hI (fun _ e l140 nl140 hI => by subst e; exact Calls.lendN (Φ := fun v' N => ∃ (AR138 : Option Addr), ∃ (cR138 : Nat), ∃ (CR138 : Chunk), v' = .slice AR138 t136.length cR138 ∧ Ow k34 G AR138 cR138 t136 CR138 ∧ N = [CR138, [(bR19, .cells #[.slice As54_f0 s54.f0.length cs54_f0, .slice As54_f1 s54.f1.length cs54_f1, mpv As54_f2] 63 (0, 0))], Cs54_f0, Cs54_f1, Cs54_f2]) (H := [[(bR19, .cells #[.slice As54_f0 s54.f0.length cs54_f0, .slice As54_f1 s54.f1.length cs54_f1, mpv As54_f2] 63 (0, 0))], Cs54_f0, Cs54_f1, Cs54_f2]) (i := 0) rfl hI (fun _ e l141 nl141 hI => by subst e; exact (((state_State_Lacks_calls k s54 t128 t132 bR19 As54_f0 cs54_f0 Cs54_f0 ((Hs54_f0.mono l140).mono l141) As54_f1 cs54_f1 Cs54_f1 ((Hs54_f1.mono l140).mono l141) As54_f2 cs54_f2 Cs54_f2 ((Hs54_f2.mono l140).mono l141) AR130 cR130 ((HR130.rdN l140 nl140).mono l141) AR134 cR134 ((HR134.mono l140).rdN l141 nl141) t136 ht137 hI)).mono fun _ _ hr => by obtain ⟨_, _, _, rfl, hd, hI⟩ := hr; obtain ⟨AR138, cR138, CR138, rfl, HR138, rfl, rfl⟩ := hd; exact ⟨_, _, _, rfl, ⟨[CR138, [(bR19, .cells #[.slice As54_f0 s54.f0.length cs54_f0, .slice As54_f1 s54.f1.length cs54_f1, mpv As54_f2] 63 (0, 0))], Cs54_f0, Cs54_f1, Cs54_f2], ⟨AR138, cR138, CR138, rfl, (HR138.flat (kFlat_flat _ _ _ _)), rfl⟩, rfl, rfl⟩, hI⟩)))).mono fun _ _ hr => by obtain ⟨_, _, _, rfl, ⟨_, hd, rfl, rfl⟩, hI⟩ := hr; obtain ⟨AR138, cR138, CR138, rfl, HR138, rfl⟩ := hd; exact ⟨_, _, _, rfl, ⟨AR138, cR138, CR138, rfl, HR138, rfl, rfl⟩, hI⟩)) ?_
                      rintro _ _ _ ⟨AR138, cR138, CR138, rfl, HR138, rfl, rfl⟩
                      refine WL.pure 10 14 [117] (L' := [(117, .bool ((t136.length : Int) == 0))]) (by kernel_rfl) (by decide) ?_
                      refine WL.split 117 (b := ((t136.length : Int) == 0)) (by kernel_rfl) (fun hc => ?_) (fun hc => ?_)
                      · replace hc := eq_of_beq hc
                        rw [if_pos hc] at h
                        have hc142 := hc
                        clear hc
                        rw [Option.bind_eq_some_iff] at h
                        obtain ⟨t143, ht144, h⟩ := h
                        refine WL.op (op := .call { callee := (.value (.func 10)), args := #[], argTypes := #[] }) (ty := 4) (d := some 118) (g := some (13, true)) (by kernel_rfl) (by kernel_rfl) (by kernel_rfl) (Does.call (f := 10) (args := []) (by kernel_rfl) (fun W hI => (grapevinelaw19_awake_calls HT k   t143 ht144 hI))) ?_
                        rintro _ _ _ ⟨rfl, rfl, rfl⟩
                        refine WL.rest 15 [8] (L' := [(8, .bool t143)]) (by kernel_rfl) ?_
                        refine QP.dropAt 10 ?_
                        refine QP.dropAt 9 ?_
                        refine QP.dropAt 8 ?_
                        refine QP.dropAt 7 ?_
                        refine QP.dropAt 6 ?_
                        refine QP.dropAt 5 ?_
                        refine QP.dropAt 4 ?_
                        refine QP.dropAt 3 ?_
                        refine QP.dropAt 2 ?_
                        refine QP.dropAt 1 ?_
                        refine QP.dropAt 0 ?_
                        refine QP.pick [8] ?_
                        exact QP.meet ⟨_, Option.some.inj h, rfl, rfl, rfl⟩
                      · replace hc := ne_of_beq_false hc
                        rw [if_neg hc] at h
                        have hc142 := hc
                        clear hc
                        refine WL.rest 14 [8] (L' := [(8, .bool false)]) (by kernel_rfl) ?_
                        refine QP.dropAt 10 ?_
                        refine QP.dropAt 9 ?_
                        refine QP.dropAt 8 ?_
                        refine QP.dropAt 7 ?_
                        refine QP.dropAt 6 ?_
                        refine QP.dropAt 5 ?_
                        refine QP.dropAt 4 ?_
                        refine QP.dropAt 3 ?_
                        refine QP.dropAt 2 ?_
                        refine QP.dropAt 1 ?_
                        refine QP.dropAt 0 ?_
                        refine QP.pick [8] ?_
                        exact QP.meet ⟨_, Option.some.inj h, rfl, rfl, rfl⟩
                    · replace hc := (Bool.eq_false_iff.1 hc)
                      rw [if_neg hc] at h
                      have hc127 := hc
                      clear hc
                      refine WL.rest 4 [8] (L' := [(8, .bool false)]) (by kernel_rfl) ?_
                      refine QP.dropAt 7 ?_
                      refine QP.dropAt 6 ?_
                      refine QP.dropAt 5 ?_
                      refine QP.dropAt 4 ?_
                      refine QP.dropAt 3 ?_
                      refine QP.dropAt 2 ?_
                      refine QP.dropAt 1 ?_
                      refine QP.dropAt 0 ?_
                      refine QP.pick [8] ?_
                      exact QP.meet ⟨_, Option.some.inj h, rfl, rfl, rfl⟩
                  · rintro _ _ _ ⟨s121, rfl, rfl, rfl, rfl⟩
                    clear h
                    replace h := hk122
                    refine WP.ret ?_
                    obtain rfl := Option.some.inj h
                    exact QP.returned [8] [.bool s121] _ (by kernel_rfl) (by kernel_rfl) (by kernel_rfl) (fun W hI => ⟨_, _, _, rfl, ⟨rfl, rfl, rfl⟩, hI⟩)
              · rw [hx] at h
                rw [Option.elim_some] at h
                clear hx
                refine WL.restQ 4 [3, 9, 10, 13] (L' := [(3, .int .i64 v67), (9, .pointer (some ⟨bR3, 0, none⟩)), (10, .pointer (some ⟨bR19, 0, none⟩)), (13, .pointer (some ⟨bR72, 0, none⟩))]) (by kernel_rfl) ?_
                refine WP.dropAt 4 ?_
                refine WP.seq ?_
                refine WP.seqP [3, 9, 10, 13, 14] (L' := [(3, .int .i64 v67), (9, .pointer (some ⟨bR3, 0, none⟩)), (10, .pointer (some ⟨bR19, 0, none⟩)), (13, .pointer (some ⟨bR72, 0, none⟩)), (14, .int .i64 0)]) (by kernel_rfl) ?_
                rw [Option.bind_eq_some_iff] at h
                obtain ⟨os147, h, hk148⟩ := h
                refine WP.cutQ (fun L' G' Γ' => ∃ s147 : T63, Sum.inr s147 = os147 ∧ ∃ (As147_f0 : Option Addr), ∃ (cs147_f0 : Nat), ∃ (Cs147_f0 : Chunk), ∃ (As147_f1 : Option Addr), ∃ (cs147_f1 : Nat), ∃ (Cs147_f1 : Chunk), ∃ (As147_f2 : Option Addr), ∃ (cs147_f2 : Nat), ∃ (Cs147_f2 : Chunk), L' = [(9, .pointer (some ⟨bR3, 0, none⟩)), (10, .pointer (some ⟨bR19, 0, none⟩)), (13, .pointer (some ⟨bR72, 0, none⟩))] ∧ G = G' ∧ [(bR72, .cells #[.slice AR72_0 x73.f0.length cR72_0, .slice AR72_1 x73.f1.length cR72_1, mpv AR72_2] 63 (0, 0))] :: CR72_0 :: CR72_1 :: CR72_2 :: [(bR3, .cells #[.slice As147_f0 s147.f0.length cs147_f0, .slice As147_f1 s147.f1.length cs147_f1, mpv As147_f2] 63 (0, 0))] :: Cs147_f0 :: Cs147_f1 :: Cs147_f2 :: [(bR19, .cells #[.slice As54_f0 s54.f0.length cs54_f0, .slice As54_f1 s54.f1.length cs54_f1, mpv As54_f2] 63 (0, 0))] :: Cs54_f0 :: Cs54_f1 :: Cs54_f2 :: Γ = Γ' ∧ Ow (kInt .i64) G As147_f0 cs147_f0 s147.f0 Cs147_f0 ∧ Ow (kInt .i64) G As147_f1 cs147_f1 s147.f1 Cs147_f1 ∧ MpF m61 G As147_f2 cs147_f2 s147.f2 Cs147_f2) ?_ ?_
                · skip
                  refine WP.block ?_
                  refine WP.pick [3, 9, 10, 13, 14] ?_
                  refine WP.loopF (fun kn151 L' G' Γ' => ∃ (y149 : Int), ∃ (y150 : T63), grapevinelaw19_StateLacks_l4 s54 v67 kn151 y149 y150 = some os147 ∧ ∃ (Ay150_f0 : Option Addr), ∃ (cy150_f0 : Nat), ∃ (Cy150_f0 : Chunk), ∃ (Ay150_f1 : Option Addr), ∃ (cy150_f1 : Nat), ∃ (Cy150_f1 : Chunk), ∃ (Ay150_f2 : Option Addr), ∃ (cy150_f2 : Nat), ∃ (Cy150_f2 : Chunk), L' = [(3, .int .i64 v67), (9, .pointer (some ⟨bR3, 0, none⟩)), (10, .pointer (some ⟨bR19, 0, none⟩)), (13, .pointer (some ⟨bR72, 0, none⟩)), (14, .int .i64 y149)] ∧ G = G' ∧ [(bR72, .cells #[.slice AR72_0 x73.f0.length cR72_0, .slice AR72_1 x73.f1.length cR72_1, mpv AR72_2] 63 (0, 0))] :: CR72_0 :: CR72_1 :: CR72_2 :: [(bR3, .cells #[.slice Ay150_f0 y150.f0.length cy150_f0, .slice Ay150_f1 y150.f1.length cy150_f1, mpv Ay150_f2] 63 (0, 0))] :: Cy150_f0 :: Cy150_f1 :: Cy150_f2 :: [(bR19, .cells #[.slice As54_f0 s54.f0.length cs54_f0, .slice As54_f1 s54.f1.length cs54_f1, mpv As54_f2] 63 (0, 0))] :: Cs54_f0 :: Cs54_f1 :: Cs54_f2 :: Γ = Γ' ∧ Ow (kInt .i64) G Ay150_f0 cy150_f0 y150.f0 Cy150_f0 ∧ Ow (kInt .i64) G Ay150_f1 cy150_f1 y150.f1 Cy150_f1 ∧ MpF m61 G Ay150_f2 cy150_f2 y150.f2 Cy150_f2) ?_ k ⟨0, s41, h, As41_f0, cs41_f0, Cs41_f0, As41_f1, cs41_f1, Cs41_f1, As41_f2, cs41_f2, Cs41_f2, rfl, rfl, rfl, Hs41_f0, Hs41_f1, Hs41_f2⟩
                  clear h
                  rintro kn152 _ _ _ ⟨y149, y150, h, Ay150_f0, cy150_f0, Cy150_f0, Ay150_f1, cy150_f1, Cy150_f1, Ay150_f2, cy150_f2, Cy150_f2, rfl, rfl, rfl, Hy150_f0, Hy150_f1, Hy150_f2⟩
                  cases kn152 with
                  | zero => exact absurd h (by simp [grapevinelaw19_StateLacks_l4])
                  | succ kn152 =>
                    simp only [grapevinelaw19_StateLacks_l4] at h
                    refine WP.seq ?_
                    refine WP.seqP [3, 9, 10, 13, 14, 70] (L' := [(3, .int .i64 v67), (9, .pointer (some ⟨bR3, 0, none⟩)), (10, .pointer (some ⟨bR19, 0, none⟩)), (13, .pointer (some ⟨bR72, 0, none⟩)), (14, .int .i64 y149), (70, .bool (decide (y149 < 200)))]) (by kernel_rfl) ?_
                    refine WP.cond (b := decide (y149 < 200)) (by kernel_rfl) (fun hc => ?_) (fun hc => ?_)
                    · replace hc := of_decide_eq_true hc
                      rw [if_pos hc] at h
                      have hc153 := hc
                      clear hc
                      refine WP.skip ?_
                      refine QP.next ?_
                      refine WP.pick [3, 9, 10, 13, 14] ?_
                      refine WP.seq ?_
                      refine WP.block ?_
                      refine WP.seqR ?_
                      refine WL.pure 0 2 [3, 9, 10, 13, 14, 73, 74] (L' := [(3, .int .i64 v67), (9, .pointer (some ⟨bR3, 0, none⟩)), (10, .pointer (some ⟨bR19, 0, none⟩)), (13, .pointer (some ⟨bR72, 0, none⟩)), (14, .int .i64 y149), (73, .pointer (some ⟨bR3, 0, none⟩)), (74, .pointer (some ⟨bR19, 0, none⟩))]) (by kernel_rfl) (by decide) ?_
                      refine WL.reperm (Γ' := [(bR19, .cells #[.slice As54_f0 s54.f0.length cs54_f0, .slice As54_f1 s54.f1.length cs54_f1, mpv As54_f2] 63 (0, 0))] :: Cs54_f0 :: Cs54_f1 :: Cs54_f2 :: [(bR72, .cells #[.slice AR72_0 x73.f0.length cR72_0, .slice AR72_1 x73.f1.length cR72_1, mpv AR72_2] 63 (0, 0))] :: CR72_0 :: CR72_1 :: CR72_2 :: [(bR3, .cells #[.slice Ay150_f0 y150.f0.length cy150_f0, .slice Ay150_f1 y150.f1.length cy150_f1, mpv Ay150_f2] 63 (0, 0))] :: Cy150_f0 :: Cy150_f1 :: Cy150_f2 :: Γ) (perm_sel [8, 9, 10, 11, 0, 1, 2, 3, 4, 5, 6, 7] (by kernel_rfl) rfl) ?_
                      rw [Option.bind_eq_some_iff] at h
                      obtain ⟨t154, ht155, h⟩ := h
                      refine WL.op (op := .call { callee := (.value (.func 12)), args := #[(.tmp 74)], argTypes := #[23] }) (ty := 27) (d := some 75) (g := none) (by kernel_rfl) (by kernel_rfl) (by kernel_rfl) (Does.call (f := 12) (args := [.pointer (some ⟨bR19, 0, none⟩)]) (by kernel_rfl) (fun W hI => (state_State_W_calls s54 bR19 As54_f0 cs54_f0 Cs54_f0 Hs54_f0 As54_f1 cs54_f1 Cs54_f1 Hs54_f1 As54_f2 cs54_f2 Cs54_f2 Hs54_f2 t154 ht155 hI))) ?_
                      rintro _ _ _ ⟨AR156, cR156, CR156, rfl, HR156, rfl, rfl⟩
                      refine WL.reperm (Γ' := [(bR3, .cells #[.slice Ay150_f0 y150.f0.length cy150_f0, .slice Ay150_f1 y150.f1.length cy150_f1, mpv Ay150_f2] 63 (0, 0))] :: Cy150_f0 :: Cy150_f1 :: Cy150_f2 :: CR156 :: [(bR19, .cells #[.slice As54_f0 s54.f0.length cs54_f0, .slice As54_f1 s54.f1.length cs54_f1, mpv As54_f2] 63 (0, 0))] :: Cs54_f0 :: Cs54_f1 :: Cs54_f2 :: [(bR72, .cells #[.slice AR72_0 x73.f0.length cR72_0, .slice AR72_1 x73.f1.length cR72_1, mpv AR72_2] 63 (0, 0))] :: CR72_0 :: CR72_1 :: CR72_2 :: Γ) (perm_sel [9, 10, 11, 12, 0, 1, 2, 3, 4, 5, 6, 7, 8] (by kernel_rfl) rfl) ?_
                      rw [Option.bind_eq_some_iff] at h
                      obtain ⟨t158, ht159, h⟩ := h
                      refine WL.op (op := .call { callee := (.value (.func 15)), args := #[(.tmp 73), (.tmp 75)], argTypes := #[23, 27] }) (ty := 3) (d := some 76) (g := none) (by kernel_rfl) (by kernel_rfl) (by kernel_rfl) (Does.call (Φ := fun v' G' Γ' => ∃ (AR160p0_0 : Option Addr), ∃ (cR160p0_0 : Nat), ∃ (CR160p0_0 : Chunk), ∃ (AR160p0_1 : Option Addr), ∃ (cR160p0_1 : Nat), ∃ (CR160p0_1 : Chunk), ∃ (AR160p0_2 : Option Addr), ∃ (cR160p0_2 : Nat), ∃ (CR160p0_2 : Chunk), v' = .int .i64 t158.1 ∧ Ow (kInt .i64) G AR160p0_0 cR160p0_0 t158.2.f0 CR160p0_0 ∧ Ow (kInt .i64) G AR160p0_1 cR160p0_1 t158.2.f1 CR160p0_1 ∧ MpF m61 G AR160p0_2 cR160p0_2 t158.2.f2 CR160p0_2 ∧ G = G' ∧ [(bR3, .cells #[.slice AR160p0_0 t158.2.f0.length cR160p0_0, .slice AR160p0_1 t158.2.f1.length cR160p0_1, mpv AR160p0_2] 63 (0, 0))] :: CR160p0_0 :: CR160p0_1 :: CR160p0_2 :: CR156 :: [(bR19, .cells #[.slice As54_f0 s54.f0.length cs54_f0, .slice As54_f1 s54.f1.length cs54_f1, mpv As54_f2] 63 (0, 0))] :: Cs54_f0 :: Cs54_f1 :: Cs54_f2 :: [(bR72, .cells #[.slice AR72_0 x73.f0.length cR72_0, .slice AR72_1 x73.f1.length cR72_1, mpv AR72_2] 63 (0, 0))] :: CR72_0 :: CR72_1 :: CR72_2 :: Γ = Γ') (f := 15) (args := [.pointer (some ⟨bR3, 0, none⟩), .slice AR156 t154.length cR156]) (by kernel_rfl) (fun W hI => (Calls.lendN (Φ := fun v' N => ∃ (AR160p0_0 : Option Addr), ∃ (cR160p0_0 : Nat), ∃ (CR160p0_0 : Chunk), ∃ (AR160p0_1 : Option Addr), ∃ (cR160p0_1 : Nat), ∃ (CR160p0_1 : Chunk), ∃ (AR160p0_2 : Option Addr), ∃ (cR160p0_2 : Nat), ∃ (CR160p0_2 : Chunk), v' = .int .i64 t158.1 ∧ Ow (kInt .i64) G AR160p0_0 cR160p0_0 t158.2.f0 CR160p0_0 ∧ Ow (kInt .i64) G AR160p0_1 cR160p0_1 t158.2.f1 CR160p0_1 ∧ MpF m61 G AR160p0_2 cR160p0_2 t158.2.f2 CR160p0_2 ∧ N = [[(bR3, .cells #[.slice AR160p0_0 t158.2.f0.length cR160p0_0, .slice AR160p0_1 t158.2.f1.length cR160p0_1, mpv AR160p0_2] 63 (0, 0))], CR160p0_0, CR160p0_1, CR160p0_2]) (H := [[(bR3, .cells #[.slice Ay150_f0 y150.f0.length cy150_f0, .slice Ay150_f1 y150.f1.length cy150_f1, mpv Ay150_f2] 63 (0, 0))], Cy150_f0, Cy150_f1, Cy150_f2]) (i := 0) rfl hI (fun _ e l162 nl162 hI => by subst e; exact (((state_State_Raise_calls kn152 y150 t154 bR3 Ay150_f0 cy150_f0 Cy150_f0 (Hy150_f0.mono l162) Ay150_f1 cy150_f1 Cy150_f1 (Hy150_f1.mono l162) Ay150_f2 cy150_f2 Cy150_f2 (Hy150_f2.mono l162) AR156 cR156 (HR156.rdN l162 nl162) t158 ht159 hI)).mono fun _ _ hr => by obtain ⟨_, _, _, rfl, hd, hI⟩ := hr; obtain ⟨AR160p0_0, cR160p0_0, CR160p0_0, AR160p0_1, cR160p0_1, CR160p0_1, AR160p0_2, cR160p0_2, CR160p0_2, rfl, HR160p0_0, HR160p0_1, HR160p0_2, rfl, rfl⟩ := hd; exact ⟨_, _, _, rfl, ⟨[[(bR3, .cells #[.slice AR160p0_0 t158.2.f0.length cR160p0_0, .slice AR160p0_1 t158.2.f1.length cR160p0_1, mpv AR160p0_2] 63 (0, 0))], CR160p0_0, CR160p0_1, CR160p0_2], ⟨AR160p0_0, cR160p0_0, CR160p0_0, AR160p0_1, cR160p0_1, CR160p0_1, AR160p0_2, cR160p0_2, CR160p0_2, rfl, (HR160p0_0.flat (kInt_flat _)), (HR160p0_1.flat (kInt_flat _)), (HR160p0_2.flat ()), rfl⟩, rfl, rfl⟩, hI⟩))).mono fun _ _ hr => by obtain ⟨_, _, _, rfl, ⟨_, hd, rfl, rfl⟩, hI⟩ := hr; obtain ⟨AR160p0_0, cR160p0_0, CR160p0_0, AR160p0_1, cR160p0_1, CR160p0_1, AR160p0_2, cR160p0_2, CR160p0_2, rfl, HR160p0_0, HR160p0_1, HR160p0_2, rfl⟩ := hd; exact ⟨_, _, _, rfl, ⟨AR160p0_0, cR160p0_0, CR160p0_0, AR160p0_1, cR160p0_1, CR160p0_1, AR160p0_2, cR160p0_2, CR160p0_2, rfl, HR160p0_0, HR160p0_1, HR160p0_2, rfl, rfl⟩, hI⟩)) ?_
                      rintro _ _ _ ⟨AR160p0_0, cR160p0_0, CR160p0_0, AR160p0_1, cR160p0_1, CR160p0_1, AR160p0_2, cR160p0_2, CR160p0_2, rfl, HR160p0_0, HR160p0_1, HR160p0_2, rfl, rfl⟩
                      refine WL.restQ 4 [3, 9, 10, 13, 14] (L' := [(3, .int .i64 v67), (9, .pointer (some ⟨bR3, 0, none⟩)), (10, .pointer (some ⟨bR19, 0, none⟩)), (13, .pointer (some ⟨bR72, 0, none⟩)), (14, .int .i64 y149)]) (by kernel_rfl) ?_
                      refine WP.dropAt 4 ?_
                      refine WP.seqR ?_
                      refine WL.pure 0 2 [3, 9, 10, 13, 14, 77, 78] (L' := [(3, .int .i64 v67), (9, .pointer (some ⟨bR3, 0, none⟩)), (10, .pointer (some ⟨bR19, 0, none⟩)), (13, .pointer (some ⟨bR72, 0, none⟩)), (14, .int .i64 y149), (77, .pointer (some ⟨bR19, 0, none⟩)), (78, .pointer (some ⟨bR3, 0, none⟩))]) (by kernel_rfl) (by decide) ?_
                      rw [Option.bind_eq_some_iff] at h
                      obtain ⟨t163, ht164, h⟩ := h
                      refine WL.op (op := .call { callee := (.value (.func 11)), args := #[(.tmp 78)], argTypes := #[23] }) (ty := 27) (d := some 79) (g := none) (by kernel_rfl) (by kernel_rfl) (by kernel_rfl) (Does.call (f := 11) (args := [.pointer (some ⟨bR3, 0, none⟩)]) (by kernel_rfl) (fun W hI => (state_State_V_calls t158.2 bR3 AR160p0_0 cR160p0_0 CR160p0_0 HR160p0_0 AR160p0_1 cR160p0_1 CR160p0_1 HR160p0_1 AR160p0_2 cR160p0_2 CR160p0_2 HR160p0_2 t163 ht164 hI))) ?_
                      rintro _ _ _ ⟨AR165, cR165, CR165, rfl, HR165, rfl, rfl⟩
                      refine WL.pure 3 4 [3, 9, 10, 13, 14, 77, 79, 80] (L' := [(3, .int .i64 v67), (9, .pointer (some ⟨bR3, 0, none⟩)), (10, .pointer (some ⟨bR19, 0, none⟩)), (13, .pointer (some ⟨bR72, 0, none⟩)), (14, .int .i64 y149), (77, .pointer (some ⟨bR19, 0, none⟩)), (79, .slice AR165 t163.length cR165), (80, .pointer (some ⟨bR3, 0, none⟩))]) (by kernel_rfl) (by decide) ?_
                      refine WL.reperm (Γ' := [(bR3, .cells #[.slice AR160p0_0 t158.2.f0.length cR160p0_0, .slice AR160p0_1 t158.2.f1.length cR160p0_1, mpv AR160p0_2] 63 (0, 0))] :: CR160p0_0 :: CR160p0_1 :: CR160p0_2 :: CR165 :: [(bR19, .cells #[.slice As54_f0 s54.f0.length cs54_f0, .slice As54_f1 s54.f1.length cs54_f1, mpv As54_f2] 63 (0, 0))] :: Cs54_f0 :: Cs54_f1 :: Cs54_f2 :: [(bR72, .cells #[.slice AR72_0 x73.f0.length cR72_0, .slice AR72_1 x73.f1.length cR72_1, mpv AR72_2] 63 (0, 0))] :: CR72_0 :: CR72_1 :: CR72_2 :: Γ) (perm_sel [1, 2, 3, 4, 0] (by kernel_rfl) rfl) ?_
                      rw [Option.bind_eq_some_iff] at h
                      obtain ⟨t167, ht168, h⟩ := h
                      refine WL.op (op := .call { callee := (.value (.func 12)), args := #[(.tmp 80)], argTypes := #[23] }) (ty := 27) (d := some 81) (g := none) (by kernel_rfl) (by kernel_rfl) (by kernel_rfl) (Does.call (f := 12) (args := [.pointer (some ⟨bR3, 0, none⟩)]) (by kernel_rfl) (fun W hI => (state_State_W_calls t158.2 bR3 AR160p0_0 cR160p0_0 CR160p0_0 HR160p0_0 AR160p0_1 cR160p0_1 CR160p0_1 HR160p0_1 AR160p0_2 cR160p0_2 CR160p0_2 HR160p0_2 t167 ht168 hI))) ?_
                      rintro _ _ _ ⟨AR169, cR169, CR169, rfl, HR169, rfl, rfl⟩
                      refine WL.reperm (Γ' := [(bR19, .cells #[.slice As54_f0 s54.f0.length cs54_f0, .slice As54_f1 s54.f1.length cs54_f1, mpv As54_f2] 63 (0, 0))] :: Cs54_f0 :: Cs54_f1 :: Cs54_f2 :: CR169 :: [(bR3, .cells #[.slice AR160p0_0 t158.2.f0.length cR160p0_0, .slice AR160p0_1 t158.2.f1.length cR160p0_1, mpv AR160p0_2] 63 (0, 0))] :: CR160p0_0 :: CR160p0_1 :: CR160p0_2 :: CR165 :: [(bR72, .cells #[.slice AR72_0 x73.f0.length cR72_0, .slice AR72_1 x73.f1.length cR72_1, mpv AR72_2] 63 (0, 0))] :: CR72_0 :: CR72_1 :: CR72_2 :: Γ) (perm_sel [6, 7, 8, 9, 0, 1, 2, 3, 4, 5] (by kernel_rfl) rfl) ?_
                      rw [Option.bind_eq_some_iff] at h
                      obtain ⟨t171, ht172, h⟩ := h
                      refine WL.op (op := .call { callee := (.value (.func 27)), args := #[(.tmp 77), (.tmp 79), (.tmp 81)], argTypes := #[23, 27, 27] }) (ty := 45) (d := some 82) (g := none) (by kernel_rfl) (by kernel_rfl) (by kernel_rfl) (Does.call (Φ := fun v' G' Γ' => ∃ (AR173 : Option Addr), ∃ (cR173 : Nat), ∃ (CR173 : Chunk), v' = .slice AR173 t171.length cR173 ∧ Ow k34 G AR173 cR173 t171 CR173 ∧ G = G' ∧ CR173 :: [(bR19, .cells #[.slice As54_f0 s54.f0.length cs54_f0, .slice As54_f1 s54.f1.length cs54_f1, mpv As54_f2] 63 (0, 0))] :: Cs54_f0 :: Cs54_f1 :: Cs54_f2 :: CR169 :: [(bR3, .cells #[.slice AR160p0_0 t158.2.f0.length cR160p0_0, .slice AR160p0_1 t158.2.f1.length cR160p0_1, mpv AR160p0_2] 63 (0, 0))] :: CR160p0_0 :: CR160p0_1 :: CR160p0_2 :: CR165 :: [(bR72, .cells #[.slice AR72_0 x73.f0.length cR72_0, .slice AR72_1 x73.f1.length cR72_1, mpv AR72_2] 63 (0, 0))] :: CR72_0 :: CR72_1 :: CR72_2 :: Γ = Γ') (f := 27) (args := [.pointer (some ⟨bR19, 0, none⟩), .slice AR165 t163.length cR165, .slice AR169 t167.length cR169]) (by kernel_rfl) (fun W hI => (Calls.lendN (Φ := fun v' N => ∃ (AR173 : Option Addr), ∃ (cR173 : Nat), ∃ (CR173 : Chunk), v' = .slice AR173 t171.length cR173 ∧ Ow k34 G AR173 cR173 t171 CR173 ∧ N = [CR173, [(bR19, .cells #[.slice As54_f0 s54.f0.length cs54_f0, .slice As54_f1 s54.f1.length cs54_f1, mpv As54_f2] 63 (0, 0))], Cs54_f0, Cs54_f1, Cs54_f2]) (H := [[(bR19, .cells #[.slice As54_f0 s54.f0.length cs54_f0, .slice As54_f1 s54.f1.length cs54_f1, mpv As54_f2] 63 (0, 0))], Cs54_f0, Cs54_f1, Cs54_f2]) (i := 5) rfl hI (fun _ e l175 nl175 hI => by subst e; exact Calls.lendN (Φ := fun v' N => ∃ (AR173 : Option Addr), ∃ (cR173 : Nat), ∃ (CR173 : Chunk), v' = .slice AR173 t171.length cR173 ∧ Ow k34 G AR173 cR173 t171 CR173 ∧ N = [CR173, [(bR19, .cells #[.slice As54_f0 s54.f0.length cs54_f0, .slice As54_f1 s54.f1.length cs54_f1, mpv As54_f2] 63 (0, 0))], Cs54_f0, Cs54_f1, Cs54_f2]) (H := [[(bR19, .cells #[.slice As54_f0 s54.f0.length cs54_f0, .slice As54_f1 s54.f1.length cs54_f1, mpv As54_f2] 63 (0, 0))], Cs54_f0, Cs54_f1, Cs54_f2]) (i := 0) rfl hI (fun _ e l176 nl176 hI => by subst e; exact (((state_State_Lacks_calls kn152 s54 t163 t167 bR19 As54_f0 cs54_f0 Cs54_f0 ((Hs54_f0.mono l175).mono l176) As54_f1 cs54_f1 Cs54_f1 ((Hs54_f1.mono l175).mono l176) As54_f2 cs54_f2 Cs54_f2 ((Hs54_f2.mono l175).mono l176) AR165 cR165 ((HR165.rdN l175 nl175).mono l176) AR169 cR169 ((HR169.mono l175).rdN l176 nl176) t171 ht172 hI)).mono fun _ _ hr => by obtain ⟨_, _, _, rfl, hd, hI⟩ := hr; obtain ⟨AR173, cR173, CR173, rfl, HR173, rfl, rfl⟩ := hd; exact ⟨_, _, _, rfl, ⟨[CR173, [(bR19, .cells #[.slice As54_f0 s54.f0.length cs54_f0, .slice As54_f1 s54.f1.length cs54_f1, mpv As54_f2] 63 (0, 0))], Cs54_f0, Cs54_f1, Cs54_f2], ⟨AR173, cR173, CR173, rfl, (HR173.flat (kFlat_flat _ _ _ _)), rfl⟩, rfl, rfl⟩, hI⟩)))).mono fun _ _ hr => by obtain ⟨_, _, _, rfl, ⟨_, hd, rfl, rfl⟩, hI⟩ := hr; obtain ⟨AR173, cR173, CR173, rfl, HR173, rfl⟩ := hd; exact ⟨_, _, _, rfl, ⟨AR173, cR173, CR173, rfl, HR173, rfl, rfl⟩, hI⟩)) ?_
                      rintro _ _ _ ⟨AR173, cR173, CR173, rfl, HR173, rfl, rfl⟩
                      refine WL.restQ 6 [3, 9, 10, 13, 14, 15] (L' := [(3, .int .i64 v67), (9, .pointer (some ⟨bR3, 0, none⟩)), (10, .pointer (some ⟨bR19, 0, none⟩)), (13, .pointer (some ⟨bR72, 0, none⟩)), (14, .int .i64 y149), (15, .slice AR173 t171.length cR173)]) (by kernel_rfl) ?_
                      refine WP.dropAt 10 ?_
                      refine WP.dropAt 5 ?_
                      refine WP.seq ?_
                      refine WP.seqP [3, 9, 10, 13, 14, 15, 85] (L' := [(3, .int .i64 v67), (9, .pointer (some ⟨bR3, 0, none⟩)), (10, .pointer (some ⟨bR19, 0, none⟩)), (13, .pointer (some ⟨bR72, 0, none⟩)), (14, .int .i64 y149), (15, .slice AR173 t171.length cR173), (85, .bool ((t171.length : Int) == 0))]) (by kernel_rfl) ?_
                      refine WP.cond (b := ((t171.length : Int) == 0)) (by kernel_rfl) (fun hc => ?_) (fun hc => ?_)
                      · replace hc := eq_of_beq hc
                        rw [if_pos hc] at h
                        have hc177 := hc
                        clear hc
                        refine WP.exit ?_
                        refine QP.thenE ?_
                        refine QP.blockM (by rfl) ?_
                        refine QP.thenE ?_
                        refine QP.thenE ?_
                        refine QP.blockE ?_
                        refine QP.dropAt 0 ?_
                        refine QP.reperm (Γ' := [(bR72, .cells #[.slice AR72_0 x73.f0.length cR72_0, .slice AR72_1 x73.f1.length cR72_1, mpv AR72_2] 63 (0, 0))] :: CR72_0 :: CR72_1 :: CR72_2 :: [(bR3, .cells #[.slice AR160p0_0 t158.2.f0.length cR160p0_0, .slice AR160p0_1 t158.2.f1.length cR160p0_1, mpv AR160p0_2] 63 (0, 0))] :: CR160p0_0 :: CR160p0_1 :: CR160p0_2 :: [(bR19, .cells #[.slice As54_f0 s54.f0.length cs54_f0, .slice As54_f1 s54.f1.length cs54_f1, mpv As54_f2] 63 (0, 0))] :: Cs54_f0 :: Cs54_f1 :: Cs54_f2 :: Γ) (perm_sel [8, 9, 10, 11, 4, 5, 6, 7, 0, 1, 2, 3] (by kernel_rfl) rfl) ?_
                        refine QP.pick [9, 10, 13] ?_
                        exact QP.meet ⟨_, Option.some.inj h, AR160p0_0, cR160p0_0, CR160p0_0, AR160p0_1, cR160p0_1, CR160p0_1, AR160p0_2, cR160p0_2, CR160p0_2, rfl, rfl, rfl, HR160p0_0, HR160p0_1, HR160p0_2⟩
                      · replace hc := ne_of_beq_false hc
                        rw [if_neg hc] at h
                        have hc177 := hc
                        clear hc
                        refine WP.skip ?_
                        refine QP.next ?_
                        refine WP.pick [3, 9, 10, 13, 14, 15] ?_
                        refine WP.seqP [3, 9, 10, 13, 14, 15, 16] (L' := [(3, .int .i64 v67), (9, .pointer (some ⟨bR3, 0, none⟩)), (10, .pointer (some ⟨bR19, 0, none⟩)), (13, .pointer (some ⟨bR72, 0, none⟩)), (14, .int .i64 y149), (15, .slice AR173 t171.length cR173), (16, .int .i64 0)]) (by kernel_rfl) ?_
                        rw [Option.bind_eq_some_iff] at h
                        obtain ⟨os178, h, hk179⟩ := h
                        refine WP.cutQ (fun L' G' Γ' => ∃ s178 : T63, Sum.inr s178 = os178 ∧ ∃ (As178_f0 : Option Addr), ∃ (cs178_f0 : Nat), ∃ (Cs178_f0 : Chunk), ∃ (As178_f1 : Option Addr), ∃ (cs178_f1 : Nat), ∃ (Cs178_f1 : Chunk), ∃ (As178_f2 : Option Addr), ∃ (cs178_f2 : Nat), ∃ (Cs178_f2 : Chunk), L' = [(3, .int .i64 v67), (9, .pointer (some ⟨bR3, 0, none⟩)), (10, .pointer (some ⟨bR19, 0, none⟩)), (13, .pointer (some ⟨bR72, 0, none⟩)), (14, .int .i64 y149)] ∧ G = G' ∧ [(bR19, .cells #[.slice As54_f0 s54.f0.length cs54_f0, .slice As54_f1 s54.f1.length cs54_f1, mpv As54_f2] 63 (0, 0))] :: Cs54_f0 :: Cs54_f1 :: Cs54_f2 :: [(bR3, .cells #[.slice As178_f0 s178.f0.length cs178_f0, .slice As178_f1 s178.f1.length cs178_f1, mpv As178_f2] 63 (0, 0))] :: Cs178_f0 :: Cs178_f1 :: Cs178_f2 :: [(bR72, .cells #[.slice AR72_0 x73.f0.length cR72_0, .slice AR72_1 x73.f1.length cR72_1, mpv AR72_2] 63 (0, 0))] :: CR72_0 :: CR72_1 :: CR72_2 :: Γ = Γ' ∧ Ow (kInt .i64) G As178_f0 cs178_f0 s178.f0 Cs178_f0 ∧ Ow (kInt .i64) G As178_f1 cs178_f1 s178.f1 Cs178_f1 ∧ MpF m61 G As178_f2 cs178_f2 s178.f2 Cs178_f2) ?_ ?_
                        · skip
                          refine WP.block ?_
                          refine WP.pick [3, 9, 10, 13, 14, 15, 16] ?_
                          refine WP.loopF (fun kn182 L' G' Γ' => ∃ (y180 : Int), ∃ (y181 : T63), grapevinelaw19_StateLacks_l5 v67 t171 kn182 y180 y181 = some os178 ∧ ∃ (Ay181_f0 : Option Addr), ∃ (cy181_f0 : Nat), ∃ (Cy181_f0 : Chunk), ∃ (Ay181_f1 : Option Addr), ∃ (cy181_f1 : Nat), ∃ (Cy181_f1 : Chunk), ∃ (Ay181_f2 : Option Addr), ∃ (cy181_f2 : Nat), ∃ (Cy181_f2 : Chunk), L' = [(3, .int .i64 v67), (9, .pointer (some ⟨bR3, 0, none⟩)), (10, .pointer (some ⟨bR19, 0, none⟩)), (13, .pointer (some ⟨bR72, 0, none⟩)), (14, .int .i64 y149), (15, .slice AR173 t171.length cR173), (16, .int .i64 y180)] ∧ G = G' ∧ CR173 :: [(bR19, .cells #[.slice As54_f0 s54.f0.length cs54_f0, .slice As54_f1 s54.f1.length cs54_f1, mpv As54_f2] 63 (0, 0))] :: Cs54_f0 :: Cs54_f1 :: Cs54_f2 :: [(bR3, .cells #[.slice Ay181_f0 y181.f0.length cy181_f0, .slice Ay181_f1 y181.f1.length cy181_f1, mpv Ay181_f2] 63 (0, 0))] :: Cy181_f0 :: Cy181_f1 :: Cy181_f2 :: [(bR72, .cells #[.slice AR72_0 x73.f0.length cR72_0, .slice AR72_1 x73.f1.length cR72_1, mpv AR72_2] 63 (0, 0))] :: CR72_0 :: CR72_1 :: CR72_2 :: Γ = Γ' ∧ Ow (kInt .i64) G Ay181_f0 cy181_f0 y181.f0 Cy181_f0 ∧ Ow (kInt .i64) G Ay181_f1 cy181_f1 y181.f1 Cy181_f1 ∧ MpF m61 G Ay181_f2 cy181_f2 y181.f2 Cy181_f2) ?_ kn152 ⟨0, t158.2, h, AR160p0_0, cR160p0_0, CR160p0_0, AR160p0_1, cR160p0_1, CR160p0_1, AR160p0_2, cR160p0_2, CR160p0_2, rfl, rfl, rfl, HR160p0_0, HR160p0_1, HR160p0_2⟩
                          clear h
                          rintro kn183 _ _ _ ⟨y180, y181, h, Ay181_f0, cy181_f0, Cy181_f0, Ay181_f1, cy181_f1, Cy181_f1, Ay181_f2, cy181_f2, Cy181_f2, rfl, rfl, rfl, Hy181_f0, Hy181_f1, Hy181_f2⟩
                          cases kn183 with
                          | zero => exact absurd h (by simp [grapevinelaw19_StateLacks_l5])
                          | succ kn183 =>
                            simp only [grapevinelaw19_StateLacks_l5] at h
                            refine WP.seq ?_
                            rw [Option.bind_eq_some_iff] at h
                            obtain ⟨os184, h, hk185⟩ := h
                            refine WP.cut (fun L' G' Γ' => ∃ s184 : Bool, s184 = os184 ∧ L' = [(3, .int .i64 v67), (9, .pointer (some ⟨bR3, 0, none⟩)), (10, .pointer (some ⟨bR19, 0, none⟩)), (13, .pointer (some ⟨bR72, 0, none⟩)), (14, .int .i64 y149), (15, .slice AR173 t171.length cR173), (16, .int .i64 y180), (94, .bool s184)] ∧ G = G' ∧ CR173 :: [(bR19, .cells #[.slice As54_f0 s54.f0.length cs54_f0, .slice As54_f1 s54.f1.length cs54_f1, mpv As54_f2] 63 (0, 0))] :: Cs54_f0 :: Cs54_f1 :: Cs54_f2 :: [(bR3, .cells #[.slice Ay181_f0 y181.f0.length cy181_f0, .slice Ay181_f1 y181.f1.length cy181_f1, mpv Ay181_f2] 63 (0, 0))] :: Cy181_f0 :: Cy181_f1 :: Cy181_f2 :: [(bR72, .cells #[.slice AR72_0 x73.f0.length cR72_0, .slice AR72_1 x73.f1.length cR72_1, mpv AR72_2] 63 (0, 0))] :: CR72_0 :: CR72_1 :: CR72_2 :: Γ = Γ') ?_ ?_
                            · clear hk185
                              refine WP.region ?_
                              refine WL.pure 0 5 [3, 9, 10, 13, 14, 15, 16, 90] (L' := [(3, .int .i64 v67), (9, .pointer (some ⟨bR3, 0, none⟩)), (10, .pointer (some ⟨bR19, 0, none⟩)), (13, .pointer (some ⟨bR72, 0, none⟩)), (14, .int .i64 y149), (15, .slice AR173 t171.length cR173), (16, .int .i64 y180), (90, .bool (decide (y180 < (t171.length : Int))))]) (by kernel_rfl) (by decide) ?_
                              refine WL.split 90 (b := decide (y180 < (t171.length : Int))) (by kernel_rfl) (fun hc => ?_) (fun hc => ?_)
                              · replace hc := of_decide_eq_true hc
                                rw [if_pos hc] at h
                                have hc186 := hc
                                clear hc
                                refine WL.rest 5 [3, 9, 10, 13, 14, 15, 16, 94] (L' := [(3, .int .i64 v67), (9, .pointer (some ⟨bR3, 0, none⟩)), (10, .pointer (some ⟨bR19, 0, none⟩)), (13, .pointer (some ⟨bR72, 0, none⟩)), (14, .int .i64 y149), (15, .slice AR173 t171.length cR173), (16, .int .i64 y180), (94, .bool (decide (y180 < v67)))]) (by kernel_rfl) ?_
                                refine QP.pick [3, 9, 10, 13, 14, 15, 16, 94] ?_
                                exact QP.meet ⟨_, Option.some.inj h, rfl, rfl, rfl⟩
                              · replace hc := of_decide_eq_false hc
                                rw [if_neg hc] at h
                                have hc186 := hc
                                clear hc
                                refine WL.rest 5 [3, 9, 10, 13, 14, 15, 16, 94] (L' := [(3, .int .i64 v67), (9, .pointer (some ⟨bR3, 0, none⟩)), (10, .pointer (some ⟨bR19, 0, none⟩)), (13, .pointer (some ⟨bR72, 0, none⟩)), (14, .int .i64 y149), (15, .slice AR173 t171.length cR173), (16, .int .i64 y180), (94, .bool false)]) (by kernel_rfl) ?_
                                refine QP.pick [3, 9, 10, 13, 14, 15, 16, 94] ?_
                                exact QP.meet ⟨_, Option.some.inj h, rfl, rfl, rfl⟩
                            · rintro _ _ _ ⟨s184, rfl, rfl, rfl, rfl⟩
                              clear h
                              replace h := hk185
                              refine WP.cond (b := s184) (by kernel_rfl) (fun hc => ?_) (fun hc => ?_)
                              · replace hc := hc
                                rw [if_pos hc] at h
                                have hc187 := hc
                                clear hc
                                refine WP.skip ?_
                                refine QP.next ?_
                                refine WP.pick [3, 9, 10, 13, 14, 15, 16] ?_
                                refine WP.seq ?_
                                refine WP.block ?_
                                refine WP.seqR ?_
                                refine WL.pure 0 3 [3, 9, 10, 13, 14, 15, 16, 97, 98, 99] (L' := [(3, .int .i64 v67), (9, .pointer (some ⟨bR3, 0, none⟩)), (10, .pointer (some ⟨bR19, 0, none⟩)), (13, .pointer (some ⟨bR72, 0, none⟩)), (14, .int .i64 y149), (15, .slice AR173 t171.length cR173), (16, .int .i64 y180), (97, .pointer (some ⟨bR3, 0, none⟩)), (98, .slice AR173 t171.length cR173), (99, .int .i64 y180)]) (by kernel_rfl) (by decide) ?_
                                by_cases hb188 : 0 ≤ y180 ∧ y180 < (t171.length : Int)
                                case neg => rw [if_neg hb188] at h; cases h
                                rw [if_pos hb188] at h
                                refine WL.tell (op := .indexAddr 45 (.tmp 98) (.tmp 99)) (ty := 0) (d := some 100) (g := none) (by kernel_rfl) (by kernel_rfl) (by kernel_rfl) (Tells.indexAddr (A := AR173) (n := t171.length) (c := cR173) (k := .i64) (j := y180) (by kernel_rfl) (by kernel_rfl) (HR173.isSome hb188.1 hb188.2) hb188.1 hb188.2 sl45) ?_
                                refine WL.tellE (op := .load 34 (.tmp 100)) (ty := 34) (d := some 101) (g := none) (by kernel_rfl) (by kernel_rfl) (by kernel_rfl) (HR173.load (i := 0) rfl (agg := true) hb188.1 hb188.2 z34 ag34 (fun h => by cases h) (by kernel_rfl)) ?_
                                rintro _ rfl
                                refine WL.reperm (Γ' := [(bR3, .cells #[.slice Ay181_f0 y181.f0.length cy181_f0, .slice Ay181_f1 y181.f1.length cy181_f1, mpv Ay181_f2] 63 (0, 0))] :: Cy181_f0 :: Cy181_f1 :: Cy181_f2 :: CR173 :: [(bR19, .cells #[.slice As54_f0 s54.f0.length cs54_f0, .slice As54_f1 s54.f1.length cs54_f1, mpv As54_f2] 63 (0, 0))] :: Cs54_f0 :: Cs54_f1 :: Cs54_f2 :: [(bR72, .cells #[.slice AR72_0 x73.f0.length cR72_0, .slice AR72_1 x73.f1.length cR72_1, mpv AR72_2] 63 (0, 0))] :: CR72_0 :: CR72_1 :: CR72_2 :: Γ) (perm_sel [5, 6, 7, 8, 0, 1, 2, 3, 4] (by kernel_rfl) rfl) ?_
                                rw [Option.bind_eq_some_iff] at h
                                obtain ⟨t189, ht190, h⟩ := h
                                refine WL.op (op := .call { callee := (.value (.func 13)), args := #[(.tmp 97), (.tmp 101)], argTypes := #[23, 34] }) (ty := 37) (d := some 102) (g := none) (by kernel_rfl) (by kernel_rfl) (by kernel_rfl) (Does.call (f := 13) (args := [.pointer (some ⟨bR3, 0, none⟩), .agg #[.int .i64 ((t171.getD y180.toNat z34).f0), .int .i64 ((t171.getD y180.toNat z34).f1), .int .i64 ((t171.getD y180.toNat z34).f2), .int .i64 ((t171.getD y180.toNat z34).f3), .string ((t171.getD y180.toNat z34).f4)]]) (by kernel_rfl) (fun W hI => (state_State_Accept_calls HT y181 (t171.getD y180.toNat z34) bR3 Ay181_f0 cy181_f0 Cy181_f0 Hy181_f0 Ay181_f1 cy181_f1 Cy181_f1 Hy181_f1 Ay181_f2 cy181_f2 Cy181_f2 Hy181_f2 t189 ht190 hI))) ?_
                                rintro _ _ _ ⟨AR191p0_0, cR191p0_0, CR191p0_0, AR191p0_1, cR191p0_1, CR191p0_1, AR191p0_2, cR191p0_2, CR191p0_2, rfl, HR191p0_0, HR191p0_1, HR191p0_2, rfl, rfl⟩
                                refine WL.restQ 6 [3, 9, 10, 13, 14, 15, 16, 103] (L' := [(3, .int .i64 v67), (9, .pointer (some ⟨bR3, 0, none⟩)), (10, .pointer (some ⟨bR19, 0, none⟩)), (13, .pointer (some ⟨bR72, 0, none⟩)), (14, .int .i64 y149), (15, .slice AR173 t171.length cR173), (16, .int .i64 y180), (103, .bool (t189.1 != 0))]) (by kernel_rfl) ?_
                                refine WP.cond (b := (t189.1 != 0)) (by kernel_rfl) (fun hc => ?_) (fun hc => ?_)
                                · replace hc := (bne_iff_ne.1 hc)
                                  rw [if_pos hc] at h
                                  have hc193 := hc
                                  clear hc
                                  refine WP.seqP [8] (L' := [(8, .bool false)]) (by kernel_rfl) ?_
                                  refine WP.dropAt 12 ?_
                                  refine WP.dropAt 11 ?_
                                  refine WP.dropAt 10 ?_
                                  refine WP.dropAt 9 ?_
                                  refine WP.dropAt 8 ?_
                                  refine WP.dropAt 7 ?_
                                  refine WP.dropAt 6 ?_
                                  refine WP.dropAt 5 ?_
                                  refine WP.dropAt 4 ?_
                                  refine WP.dropAt 3 ?_
                                  refine WP.dropAt 2 ?_
                                  refine WP.dropAt 1 ?_
                                  refine WP.dropAt 0 ?_
                                  refine WP.ret ?_
                                  refine QP.blockR ?_
                                  refine QP.thenR ?_
                                  refine QP.thenR ?_
                                  refine QP.blockR ?_
                                  refine QP.thenR ?_
                                  refine QP.blockR ?_
                                  refine QP.thenR ?_
                                  refine QP.thenR ?_
                                  refine QP.blockR ?_
                                  refine QP.thenR ?_
                                  refine QP.thenR ?_
                                  obtain rfl := Option.some.inj h
                                  obtain rfl := Option.some.inj (show some (Sum.inl _) = some _ from hk179)
                                  obtain rfl := Option.some.inj (show some _ = some _ from hk148)
                                  exact QP.returned [8] [.bool false] _ (by kernel_rfl) (by kernel_rfl) (by kernel_rfl) (fun W hI => ⟨_, _, _, rfl, ⟨rfl, rfl, rfl⟩, hI⟩)
                                · replace hc := (not_not_intro (bne_eq_false_iff_eq.1 hc))
                                  rw [if_neg hc] at h
                                  have hc193 := hc
                                  clear hc
                                  refine WP.skip ?_
                                  refine QP.blockN ?_
                                  refine QP.next ?_
                                  refine WP.pick [3, 9, 10, 13, 14, 15, 16] ?_
                                  refine WP.regionP [3, 9, 10, 13, 14, 15, 16] (L' := [(3, .int .i64 v67), (9, .pointer (some ⟨bR3, 0, none⟩)), (10, .pointer (some ⟨bR19, 0, none⟩)), (13, .pointer (some ⟨bR72, 0, none⟩)), (14, .int .i64 y149), (15, .slice AR173 t171.length cR173), (16, .int .i64 (IntKind.i64.wrap (y180 + 1)))]) (by kernel_rfl) ?_
                                  refine QP.reperm (Γ' := CR173 :: [(bR19, .cells #[.slice As54_f0 s54.f0.length cs54_f0, .slice As54_f1 s54.f1.length cs54_f1, mpv As54_f2] 63 (0, 0))] :: Cs54_f0 :: Cs54_f1 :: Cs54_f2 :: [(bR3, .cells #[.slice AR191p0_0 t189.2.f0.length cR191p0_0, .slice AR191p0_1 t189.2.f1.length cR191p0_1, mpv AR191p0_2] 63 (0, 0))] :: CR191p0_0 :: CR191p0_1 :: CR191p0_2 :: [(bR72, .cells #[.slice AR72_0 x73.f0.length cR72_0, .slice AR72_1 x73.f1.length cR72_1, mpv AR72_2] 63 (0, 0))] :: CR72_0 :: CR72_1 :: CR72_2 :: Γ) (perm_sel [4, 5, 6, 7, 8, 0, 1, 2, 3] (by kernel_rfl) rfl) ?_
                                  refine QP.pick [3, 9, 10, 13, 14, 15, 16] ?_
                                  exact QP.meet ⟨kn183, Nat.lt_succ_self _, (IntKind.i64.wrap (y180 + 1)), t189.2, h, AR191p0_0, cR191p0_0, CR191p0_0, AR191p0_1, cR191p0_1, CR191p0_1, AR191p0_2, cR191p0_2, CR191p0_2, rfl, rfl, rfl, HR191p0_0, HR191p0_1, HR191p0_2⟩
                              · replace hc := (Bool.eq_false_iff.1 hc)
                                rw [if_neg hc] at h
                                have hc187 := hc
                                clear hc
                                refine WP.exit ?_
                                refine QP.thenE ?_
                                refine QP.thenE ?_
                                refine QP.blockE ?_
                                refine QP.dropAt 0 ?_
                                refine QP.pick [3, 9, 10, 13, 14] ?_
                                exact QP.meet ⟨_, Option.some.inj h, Ay181_f0, cy181_f0, Cy181_f0, Ay181_f1, cy181_f1, Cy181_f1, Ay181_f2, cy181_f2, Cy181_f2, rfl, rfl, rfl, Hy181_f0, Hy181_f1, Hy181_f2⟩
                        · rintro _ _ _ ⟨s178, rfl, As178_f0, cs178_f0, Cs178_f0, As178_f1, cs178_f1, Cs178_f1, As178_f2, cs178_f2, Cs178_f2, rfl, rfl, rfl, Hs178_f0, Hs178_f1, Hs178_f2⟩
                          clear h
                          replace h := hk179
                          dsimp only at h
                          refine QP.blockN ?_
                          refine QP.next ?_
                          refine WP.pick [3, 9, 10, 13, 14] ?_
                          refine WP.regionP [3, 9, 10, 13, 14] (L' := [(3, .int .i64 v67), (9, .pointer (some ⟨bR3, 0, none⟩)), (10, .pointer (some ⟨bR19, 0, none⟩)), (13, .pointer (some ⟨bR72, 0, none⟩)), (14, .int .i64 (IntKind.i64.wrap (y149 + 1)))]) (by kernel_rfl) ?_
                          refine QP.reperm (Γ' := [(bR72, .cells #[.slice AR72_0 x73.f0.length cR72_0, .slice AR72_1 x73.f1.length cR72_1, mpv AR72_2] 63 (0, 0))] :: CR72_0 :: CR72_1 :: CR72_2 :: [(bR3, .cells #[.slice As178_f0 s178.f0.length cs178_f0, .slice As178_f1 s178.f1.length cs178_f1, mpv As178_f2] 63 (0, 0))] :: Cs178_f0 :: Cs178_f1 :: Cs178_f2 :: [(bR19, .cells #[.slice As54_f0 s54.f0.length cs54_f0, .slice As54_f1 s54.f1.length cs54_f1, mpv As54_f2] 63 (0, 0))] :: Cs54_f0 :: Cs54_f1 :: Cs54_f2 :: Γ) (perm_sel [8, 9, 10, 11, 4, 5, 6, 7, 0, 1, 2, 3] (by kernel_rfl) rfl) ?_
                          refine QP.pick [3, 9, 10, 13, 14] ?_
                          exact QP.meet ⟨kn152, Nat.lt_succ_self _, (IntKind.i64.wrap (y149 + 1)), s178, h, As178_f0, cs178_f0, Cs178_f0, As178_f1, cs178_f1, Cs178_f1, As178_f2, cs178_f2, Cs178_f2, rfl, rfl, rfl, Hs178_f0, Hs178_f1, Hs178_f2⟩
                    · replace hc := of_decide_eq_false hc
                      rw [if_neg hc] at h
                      have hc153 := hc
                      clear hc
                      refine WP.exit ?_
                      refine QP.thenE ?_
                      refine QP.thenE ?_
                      refine QP.blockE ?_
                      refine QP.pick [9, 10, 13] ?_
                      exact QP.meet ⟨_, Option.some.inj h, Ay150_f0, cy150_f0, Cy150_f0, Ay150_f1, cy150_f1, Cy150_f1, Ay150_f2, cy150_f2, Cy150_f2, rfl, rfl, rfl, Hy150_f0, Hy150_f1, Hy150_f2⟩
                · rintro _ _ _ ⟨s147, rfl, As147_f0, cs147_f0, Cs147_f0, As147_f1, cs147_f1, Cs147_f1, As147_f2, cs147_f2, Cs147_f2, rfl, rfl, rfl, Hs147_f0, Hs147_f1, Hs147_f2⟩
                  clear h
                  replace h := hk148
                  dsimp only at h
                  refine QP.next ?_
                  refine WP.pick [9, 10, 13] ?_
                  rw [Option.bind_eq_some_iff] at h
                  obtain ⟨os194, h, hk195⟩ := h
                  refine WP.cut (fun L' G' Γ' => ∃ s194 : Bool, s194 = os194 ∧ L' = [(8, .bool s194)] ∧ G = G' ∧ Γ = Γ') ?_ ?_
                  · clear hk195
                    refine WP.region ?_
                    refine WL.pure 0 2 [9, 10, 104, 105] (L' := [(9, .pointer (some ⟨bR3, 0, none⟩)), (10, .pointer (some ⟨bR19, 0, none⟩)), (104, .pointer (some ⟨bR3, 0, none⟩)), (105, .pointer (some ⟨bR72, 0, none⟩))]) (by kernel_rfl) (by decide) ?_
                    refine WL.reperm (Γ' := [(bR3, .cells #[.slice As147_f0 s147.f0.length cs147_f0, .slice As147_f1 s147.f1.length cs147_f1, mpv As147_f2] 63 (0, 0))] :: Cs147_f0 :: Cs147_f1 :: Cs147_f2 :: [(bR72, .cells #[.slice AR72_0 x73.f0.length cR72_0, .slice AR72_1 x73.f1.length cR72_1, mpv AR72_2] 63 (0, 0))] :: CR72_0 :: CR72_1 :: CR72_2 :: [(bR19, .cells #[.slice As54_f0 s54.f0.length cs54_f0, .slice As54_f1 s54.f1.length cs54_f1, mpv As54_f2] 63 (0, 0))] :: Cs54_f0 :: Cs54_f1 :: Cs54_f2 :: Γ) (perm_sel [4, 5, 6, 7, 0, 1, 2, 3] (by kernel_rfl) rfl) ?_
                    rw [Option.bind_eq_some_iff] at h
                    obtain ⟨t196, ht197, h⟩ := h
                    refine WL.op (op := .call { callee := (.value (.func 25)), args := #[(.tmp 104), (.tmp 105)], argTypes := #[23, 23] }) (ty := 4) (d := some 106) (g := none) (by kernel_rfl) (by kernel_rfl) (by kernel_rfl) (Does.call (f := 25) (args := [.pointer (some ⟨bR3, 0, none⟩), .pointer (some ⟨bR72, 0, none⟩)]) (by kernel_rfl) (fun W hI => (state_Same_calls k s147 x73 bR3 As147_f0 cs147_f0 Cs147_f0 Hs147_f0 As147_f1 cs147_f1 Cs147_f1 Hs147_f1 As147_f2 cs147_f2 Cs147_f2 Hs147_f2 bR72 AR72_0 cR72_0 CR72_0 HR72_0 AR72_1 cR72_1 CR72_1 HR72_1 AR72_2 cR72_2 CR72_2 HR72_2 t196 ht197 hI))) ?_
                    rintro _ _ _ ⟨rfl, rfl, rfl⟩
                    refine WL.pure 3 4 [9, 10, 107] (L' := [(9, .pointer (some ⟨bR3, 0, none⟩)), (10, .pointer (some ⟨bR19, 0, none⟩)), (107, .bool t196)]) (by kernel_rfl) (by decide) ?_
                    refine WL.split 107 (b := t196) (by kernel_rfl) (fun hc => ?_) (fun hc => ?_)
                    · replace hc := hc
                      rw [if_pos hc] at h
                      have hc200 := hc
                      clear hc
                      refine WL.pure 4 6 [9, 107, 108, 109] (L' := [(9, .pointer (some ⟨bR3, 0, none⟩)), (107, .bool true), (108, .pointer (some ⟨bR19, 0, none⟩)), (109, .pointer (some ⟨bR3, 0, none⟩))]) (by kernel_rfl) (by decide) ?_
                      rw [Option.bind_eq_some_iff] at h
                      obtain ⟨t201, ht202, h⟩ := h
                      refine WL.op (op := .call { callee := (.value (.func 11)), args := #[(.tmp 109)], argTypes := #[23] }) (ty := 27) (d := some 110) (g := some (3, true)) (by kernel_rfl) (by kernel_rfl) (by kernel_rfl) (Does.call (f := 11) (args := [.pointer (some ⟨bR3, 0, none⟩)]) (by kernel_rfl) (fun W hI => (state_State_V_calls s147 bR3 As147_f0 cs147_f0 Cs147_f0 Hs147_f0 As147_f1 cs147_f1 Cs147_f1 Hs147_f1 As147_f2 cs147_f2 Cs147_f2 Hs147_f2 t201 ht202 hI))) ?_
                      rintro _ _ _ ⟨AR203, cR203, CR203, rfl, HR203, rfl, rfl⟩
                      refine WL.pure 7 8 [107, 108, 110, 111] (L' := [(107, .bool true), (108, .pointer (some ⟨bR19, 0, none⟩)), (110, .slice AR203 t201.length cR203), (111, .pointer (some ⟨bR3, 0, none⟩))]) (by kernel_rfl) (by decide) ?_
                      refine WL.reperm (Γ' := [(bR3, .cells #[.slice As147_f0 s147.f0.length cs147_f0, .slice As147_f1 s147.f1.length cs147_f1, mpv As147_f2] 63 (0, 0))] :: Cs147_f0 :: Cs147_f1 :: Cs147_f2 :: CR203 :: [(bR72, .cells #[.slice AR72_0 x73.f0.length cR72_0, .slice AR72_1 x73.f1.length cR72_1, mpv AR72_2] 63 (0, 0))] :: CR72_0 :: CR72_1 :: CR72_2 :: [(bR19, .cells #[.slice As54_f0 s54.f0.length cs54_f0, .slice As54_f1 s54.f1.length cs54_f1, mpv As54_f2] 63 (0, 0))] :: Cs54_f0 :: Cs54_f1 :: Cs54_f2 :: Γ) (perm_sel [1, 2, 3, 4, 0] (by kernel_rfl) rfl) ?_
                      rw [Option.bind_eq_some_iff] at h
                      obtain ⟨t205, ht206, h⟩ := h
                      refine WL.op (op := .call { callee := (.value (.func 12)), args := #[(.tmp 111)], argTypes := #[23] }) (ty := 27) (d := some 112) (g := some (3, true)) (by kernel_rfl) (by kernel_rfl) (by kernel_rfl) (Does.call (f := 12) (args := [.pointer (some ⟨bR3, 0, none⟩)]) (by kernel_rfl) (fun W hI => (state_State_W_calls s147 bR3 As147_f0 cs147_f0 Cs147_f0 Hs147_f0 As147_f1 cs147_f1 Cs147_f1 Hs147_f1 As147_f2 cs147_f2 Cs147_f2 Hs147_f2 t205 ht206 hI))) ?_
                      rintro _ _ _ ⟨AR207, cR207, CR207, rfl, HR207, rfl, rfl⟩
                      refine WL.reperm (Γ' := [(bR19, .cells #[.slice As54_f0 s54.f0.length cs54_f0, .slice As54_f1 s54.f1.length cs54_f1, mpv As54_f2] 63 (0, 0))] :: Cs54_f0 :: Cs54_f1 :: Cs54_f2 :: CR207 :: [(bR3, .cells #[.slice As147_f0 s147.f0.length cs147_f0, .slice As147_f1 s147.f1.length cs147_f1, mpv As147_f2] 63 (0, 0))] :: Cs147_f0 :: Cs147_f1 :: Cs147_f2 :: CR203 :: [(bR72, .cells #[.slice AR72_0 x73.f0.length cR72_0, .slice AR72_1 x73.f1.length cR72_1, mpv AR72_2] 63 (0, 0))] :: CR72_0 :: CR72_1 :: CR72_2 :: Γ) (perm_sel [10, 11, 12, 13, 0, 1, 2, 3, 4, 5, 6, 7, 8, 9] (by kernel_rfl) rfl) ?_
                      rw [Option.bind_eq_some_iff] at h
                      obtain ⟨t209, ht210, h⟩ := h
                      refine WL.op (op := .call { callee := (.value (.func 27)), args := #[(.tmp 108), (.tmp 110), (.tmp 112)], argTypes := #[23, 27, 27] }) (ty := 45) (d := some 113) (g := some (3, true)) (by kernel_rfl) (by kernel_rfl) (by kernel_rfl) (Does.call (Φ := fun v' G' Γ' => ∃ (AR211 : Option Addr), ∃ (cR211 : Nat), ∃ (CR211 : Chunk), v' = .slice AR211 t209.length cR211 ∧ Ow k34 G AR211 cR211 t209 CR211 ∧ G = G' ∧ CR211 :: [(bR19, .cells #[.slice As54_f0 s54.f0.length cs54_f0, .slice As54_f1 s54.f1.length cs54_f1, mpv As54_f2] 63 (0, 0))] :: Cs54_f0 :: Cs54_f1 :: Cs54_f2 :: CR207 :: [(bR3, .cells #[.slice As147_f0 s147.f0.length cs147_f0, .slice As147_f1 s147.f1.length cs147_f1, mpv As147_f2] 63 (0, 0))] :: Cs147_f0 :: Cs147_f1 :: Cs147_f2 :: CR203 :: [(bR72, .cells #[.slice AR72_0 x73.f0.length cR72_0, .slice AR72_1 x73.f1.length cR72_1, mpv AR72_2] 63 (0, 0))] :: CR72_0 :: CR72_1 :: CR72_2 :: Γ = Γ') (f := 27) (args := [.pointer (some ⟨bR19, 0, none⟩), .slice AR203 t201.length cR203, .slice AR207 t205.length cR207]) (by kernel_rfl) (fun W hI => (Calls.lendN (Φ := fun v' N => ∃ (AR211 : Option Addr), ∃ (cR211 : Nat), ∃ (CR211 : Chunk), v' = .slice AR211 t209.length cR211 ∧ Ow k34 G AR211 cR211 t209 CR211 ∧ N = [CR211, [(bR19, .cells #[.slice As54_f0 s54.f0.length cs54_f0, .slice As54_f1 s54.f1.length cs54_f1, mpv As54_f2] 63 (0, 0))], Cs54_f0, Cs54_f1, Cs54_f2]) (H := [[(bR19, .cells #[.slice As54_f0 s54.f0.length cs54_f0, .slice As54_f1 s54.f1.length cs54_f1, mpv As54_f2] 63 (0, 0))], Cs54_f0, Cs54_f1, Cs54_f2]) (i := 5) rfl hI (fun _ e l213 nl213 hI => by subst e; exact Calls.lendN (Φ := fun v' N => ∃ (AR211 : Option Addr), ∃ (cR211 : Nat), ∃ (CR211 : Chunk), v' = .slice AR211 t209.length cR211 ∧ Ow k34 G AR211 cR211 t209 CR211 ∧ N = [CR211, [(bR19, .cells #[.slice As54_f0 s54.f0.length cs54_f0, .slice As54_f1 s54.f1.length cs54_f1, mpv As54_f2] 63 (0, 0))], Cs54_f0, Cs54_f1, Cs54_f2]) (H := [[(bR19, .cells #[.slice As54_f0 s54.f0.length cs54_f0, .slice As54_f1 s54.f1.length cs54_f1, mpv As54_f2] 63 (0, 0))], Cs54_f0, Cs54_f1, Cs54_f2]) (i := 0) rfl hI (fun _ e l214 nl214 hI => by subst e; exact (((state_State_Lacks_calls k s54 t201 t205 bR19 As54_f0 cs54_f0 Cs54_f0 ((Hs54_f0.mono l213).mono l214) As54_f1 cs54_f1 Cs54_f1 ((Hs54_f1.mono l213).mono l214) As54_f2 cs54_f2 Cs54_f2 ((Hs54_f2.mono l213).mono l214) AR203 cR203 ((HR203.rdN l213 nl213).mono l214) AR207 cR207 ((HR207.mono l213).rdN l214 nl214) t209 ht210 hI)).mono fun _ _ hr => by obtain ⟨_, _, _, rfl, hd, hI⟩ := hr; obtain ⟨AR211, cR211, CR211, rfl, HR211, rfl, rfl⟩ := hd; exact ⟨_, _, _, rfl, ⟨[CR211, [(bR19, .cells #[.slice As54_f0 s54.f0.length cs54_f0, .slice As54_f1 s54.f1.length cs54_f1, mpv As54_f2] 63 (0, 0))], Cs54_f0, Cs54_f1, Cs54_f2], ⟨AR211, cR211, CR211, rfl, (HR211.flat (kFlat_flat _ _ _ _)), rfl⟩, rfl, rfl⟩, hI⟩)))).mono fun _ _ hr => by obtain ⟨_, _, _, rfl, ⟨_, hd, rfl, rfl⟩, hI⟩ := hr; obtain ⟨AR211, cR211, CR211, rfl, HR211, rfl⟩ := hd; exact ⟨_, _, _, rfl, ⟨AR211, cR211, CR211, rfl, HR211, rfl, rfl⟩, hI⟩)) ?_
                      rintro _ _ _ ⟨AR211, cR211, CR211, rfl, HR211, rfl, rfl⟩
                      refine WL.pure 10 14 [117] (L' := [(117, .bool ((t209.length : Int) == 0))]) (by kernel_rfl) (by decide) ?_
                      refine WL.split 117 (b := ((t209.length : Int) == 0)) (by kernel_rfl) (fun hc => ?_) (fun hc => ?_)
                      · replace hc := eq_of_beq hc
                        rw [if_pos hc] at h
                        have hc215 := hc
                        clear hc
                        rw [Option.bind_eq_some_iff] at h
                        obtain ⟨t216, ht217, h⟩ := h
                        refine WL.op (op := .call { callee := (.value (.func 10)), args := #[], argTypes := #[] }) (ty := 4) (d := some 118) (g := some (13, true)) (by kernel_rfl) (by kernel_rfl) (by kernel_rfl) (Does.call (f := 10) (args := []) (by kernel_rfl) (fun W hI => (grapevinelaw19_awake_calls HT k   t216 ht217 hI))) ?_
                        rintro _ _ _ ⟨rfl, rfl, rfl⟩
                        refine WL.rest 15 [8] (L' := [(8, .bool t216)]) (by kernel_rfl) ?_
                        refine QP.dropAt 14 ?_
                        refine QP.dropAt 13 ?_
                        refine QP.dropAt 12 ?_
                        refine QP.dropAt 11 ?_
                        refine QP.dropAt 10 ?_
                        refine QP.dropAt 9 ?_
                        refine QP.dropAt 8 ?_
                        refine QP.dropAt 7 ?_
                        refine QP.dropAt 6 ?_
                        refine QP.dropAt 5 ?_
                        refine QP.dropAt 4 ?_
                        refine QP.dropAt 3 ?_
                        refine QP.dropAt 2 ?_
                        refine QP.dropAt 1 ?_
                        refine QP.dropAt 0 ?_
                        refine QP.pick [8] ?_
                        exact QP.meet ⟨_, Option.some.inj h, rfl, rfl, rfl⟩
                      · replace hc := ne_of_beq_false hc
                        rw [if_neg hc] at h
                        have hc215 := hc
                        clear hc
                        refine WL.rest 14 [8] (L' := [(8, .bool false)]) (by kernel_rfl) ?_
                        refine QP.dropAt 14 ?_
                        refine QP.dropAt 13 ?_
                        refine QP.dropAt 12 ?_
                        refine QP.dropAt 11 ?_
                        refine QP.dropAt 10 ?_
                        refine QP.dropAt 9 ?_
                        refine QP.dropAt 8 ?_
                        refine QP.dropAt 7 ?_
                        refine QP.dropAt 6 ?_
                        refine QP.dropAt 5 ?_
                        refine QP.dropAt 4 ?_
                        refine QP.dropAt 3 ?_
                        refine QP.dropAt 2 ?_
                        refine QP.dropAt 1 ?_
                        refine QP.dropAt 0 ?_
                        refine QP.pick [8] ?_
                        exact QP.meet ⟨_, Option.some.inj h, rfl, rfl, rfl⟩
                    · replace hc := (Bool.eq_false_iff.1 hc)
                      rw [if_neg hc] at h
                      have hc200 := hc
                      clear hc
                      refine WL.rest 4 [8] (L' := [(8, .bool false)]) (by kernel_rfl) ?_
                      refine QP.dropAt 11 ?_
                      refine QP.dropAt 10 ?_
                      refine QP.dropAt 9 ?_
                      refine QP.dropAt 8 ?_
                      refine QP.dropAt 7 ?_
                      refine QP.dropAt 6 ?_
                      refine QP.dropAt 5 ?_
                      refine QP.dropAt 4 ?_
                      refine QP.dropAt 3 ?_
                      refine QP.dropAt 2 ?_
                      refine QP.dropAt 1 ?_
                      refine QP.dropAt 0 ?_
                      refine QP.pick [8] ?_
                      exact QP.meet ⟨_, Option.some.inj h, rfl, rfl, rfl⟩
                  · rintro _ _ _ ⟨s194, rfl, rfl, rfl, rfl⟩
                    clear h
                    replace h := hk195
                    refine WP.ret ?_
                    obtain rfl := Option.some.inj h
                    exact QP.returned [8] [.bool s194] _ (by kernel_rfl) (by kernel_rfl) (by kernel_rfl) (fun W hI => ⟨_, _, _, rfl, ⟨rfl, rfl, rfl⟩, hI⟩)
/-- The plain law. -/
def StateLacks_Pure : Prop := ∀ (a0 : Int) (l1 : List T36) (l2 : List T36) (a3 : Int), (Lit.int .i64 a0).wf = true → (l1.length ≤ maxLen ∧ ∀ z0 ∈ l1, ((Lit.int .i64 z0.f0).wf = true ∧ (Lit.int .i64 z0.f1).wf = true ∧ (Lit.int .i64 z0.f2).wf = true ∧ (Lit.int .i64 z0.f3).wf = true ∧ (Lit.int .i64 z0.f4).wf = true ∧ (Lit.int .i64 z0.f5).wf = true ∧ (Lit.int .i64 z0.f6).wf = true ∧ z0.f7.size ≤ maxLen ∧ (z0.f8.length ≤ maxLen ∧ ∀ zz0_f8 ∈ z0.f8, (Lit.int .i64 zz0_f8).wf = true))) → (l2.length ≤ maxLen ∧ ∀ z0 ∈ l2, ((Lit.int .i64 z0.f0).wf = true ∧ (Lit.int .i64 z0.f1).wf = true ∧ (Lit.int .i64 z0.f2).wf = true ∧ (Lit.int .i64 z0.f3).wf = true ∧ (Lit.int .i64 z0.f4).wf = true ∧ (Lit.int .i64 z0.f5).wf = true ∧ (Lit.int .i64 z0.f6).wf = true ∧ z0.f7.size ≤ maxLen ∧ (z0.f8.length ≤ maxLen ∧ ∀ zz0_f8 ∈ z0.f8, (Lit.int .i64 zz0_f8).wf = true))) → (Lit.int .i64 a3).wf = true → ∃ k, grapevinelaw19_StateLacks k a0 l1 l2 a3 = some true
end Go.Proofs.YtjefgmglgphdbaaDoor.Gf
