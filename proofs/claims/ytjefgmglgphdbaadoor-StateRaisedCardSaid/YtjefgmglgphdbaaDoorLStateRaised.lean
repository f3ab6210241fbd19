/- Walks of Go functions: what each tells, as a plain Lean function, and that the Go code comes to it. Written by gg.py of this repo. -/
import Derived.Test.YtjefgmglgphdbaaDoorT
import Derived.Test.YtjefgmglgphdbaaDoorF0
import Derived.Test.YtjefgmglgphdbaaDoorF1
import Derived.Test.YtjefgmglgphdbaaDoorF2
namespace Go.Proofs.YtjefgmglgphdbaaDoor.Gf
open Go Go.Gg
set_option maxRecDepth 100000
set_option linter.unusedVariables false
set_option linter.unusedSimpArgs false

/-! ### grapevine/grapevinelaw19.StateRaised: function 4 -/
noncomputable def grapevinelaw19_StateRaised_l0 (l1 : List T36) : Nat → Int → T63 → Option T63
  | 0, _, _ => none
  | k + 1, y23, y24 => (if y23 < (l1.length : Int) then (if 0 ≤ y23 ∧ y23 < (l1.length : Int) then ((grapevinelaw19_play k y24 (l1.getD y23.toNat z36)).bind fun t30 => grapevinelaw19_StateRaised_l0 l1 k (IntKind.i64.wrap (y23 + 1)) t30) else none) else some y24)
noncomputable def grapevinelaw19_StateRaised_l1 (t42 : List T34) (t101 : List T34) (t156 : List Int) : Nat → Int → Int → Option (Sum Bool Unit)
  | 0, _, _ => none
  | k + 1, y164, y165 => (if y165 < (t42.length : Int) then (if 0 ≤ y165 ∧ y165 < (t42.length : Int) then (if 0 ≤ y165 ∧ y165 < (t42.length : Int) then (if 0 ≤ ((t42.getD y165.toNat z34).f0) ∧ ((t42.getD y165.toNat z34).f0) < (t156.length : Int) then (if ((t42.getD y165.toNat z34).f1) > (t156.getD ((t42.getD y165.toNat z34).f0).toNat 0) then ((if y164 ≥ (t101.length : Int) then some true else (if 0 ≤ y164 ∧ y164 < (t101.length : Int) then (if 0 ≤ y165 ∧ y165 < (t42.length : Int) then some (!decide ((t101.getD y164.toNat z34) = (t42.getD y165.toNat z34))) else none) else none)).bind fun s173 => (if s173 = true then some (Sum.inl false) else grapevinelaw19_StateRaised_l1 t42 t101 t156 k (IntKind.i64.wrap (y164 + 1)) (IntKind.i64.wrap (y165 + 1)))) else grapevinelaw19_StateRaised_l1 t42 t101 t156 k y164 (IntKind.i64.wrap (y165 + 1))) else none) else none) else none) else some (Sum.inr ()))
noncomputable def grapevinelaw19_StateRaised (k : Nat) (a0 : Int) (l1 : List T36) (l2 : List Int) : Option Bool := ((state_New a0).bind fun t1 => Option.elim t1 ((grapevinelaw19_awake k ).bind fun t5 => some t5) (fun x4 => (((grapevinelaw19_great k l1 30).bind fun t11 => (if t11 = true then some true else some (decide ((l2.length : Int) > 20)))).bind fun s9 => (if s9 = true then ((grapevinelaw19_awake k ).bind fun t17 => some t17) else ((grapevinelaw19_StateRaised_l0 l1 k 0 x4).bind fun s21 => ((state_State_V s21).bind fun t34 => ((state_State_W s21).bind fun t38 => ((state_State_Records k s21).bind fun t42 => ((grapevinelaw19_whole k s21).bind fun t46 => (if (!t46) = true then some false else ((state_State_Raise k s21 l2).bind fun t51 => (if t51.1 < 0 then ((if t51.1 = (-1) then ((grapevineref3_May k l2 a0).bind fun t59 => (if (!t59) = true then ((state_State_V t51.2).bind fun t64 => ((grapevinelaw0_SameInts k t64 t34).bind fun t68 => (if t68 = true then ((state_State_W t51.2).bind fun t75 => ((grapevinelaw0_SameInts k t75 t38).bind fun t79 => (if t79 = true then ((state_State_Records k t51.2).bind fun t86 => ((grapevinelaw0_SameRecords k t86 t42).bind fun t90 => (if t90 = true then ((grapevinelaw19_awake k ).bind fun t97 => some t97) else some false))) else some false))) else some false))) else some false)) else some false).bind fun s56 => some s56) else ((state_State_Records k t51.2).bind fun t101 => (((state_State_W t51.2).bind fun t107 => ((grapevineref3_Join k ([t38, l2] : List (List Int))).bind fun t114 => ((grapevinelaw0_SameInts k t107 t114).bind fun t120 => (if (!t120) = true then some true else ((state_State_V t51.2).bind fun t127 => ((grapevineref3_Join k ([t34, l2] : List (List Int))).bind fun t134 => ((grapevinelaw0_SameInts k t127 t134).bind fun t140 => (if (!t140) = true then some true else (if ¬ (t101.length : Int) = (IntKind.i64.wrap ((t42.length : Int) - t51.1)) then some true else ((grapevinelaw19_whole k t51.2).bind fun t148 => some (!t148))))))))))).bind fun s105 => (if s105 = true then some false else ((grapevineref3_Join k ([t38, l2] : List (List Int))).bind fun t156 => ((grapevinelaw19_StateRaised_l1 t42 t101 t156 k 0 0).bind fun os162 => match os162 with | Sum.inl r => some r | Sum.inr s162 => (((state_State_W t51.2).bind fun t181 => ((state_State_Raise k t51.2 t181).bind fun t185 => (if t185.1 = 0 then ((state_State_Records k t185.2).bind fun t191 => ((grapevinelaw0_SameRecords k t191 t101).bind fun t195 => (if t195 = true then ((grapevinelaw19_awake k ).bind fun t202 => some (t202, t185.2)) else some (false, t185.2)))) else some (false, t185.2)))).bind fun s179 => some s179.1))))))))))))))))))
set_option maxHeartbeats 4000000 in
theorem grapevinelaw19_StateRaised_calls {B : World} {G : GMap} {Γ : List Chunk} {W : World} (HT : Tabs B G) (k : Nat) (a0 : Int) (l1 : List T36) (l2 : List Int) (Al1 : Option Addr) (cl1 : Nat) (Hl1 : Rd k36 G Al1 cl1 l1) (Al2 : Option Addr) (cl2 : Nat) (Hl2 : Rd (kInt .i64) G Al2 cl2 l2) (r : Bool) (h : grapevinelaw19_StateRaised k a0 l1 l2 = some r) (hI : Inv B G (Γ) W) :
    Calls Tryd.prog 4 [.int .i64 a0, .slice Al1 l1.length cl1, .slice Al2 l2.length cl2].toArray W (Ret B (fun v G' Γ' => v = .bool r ∧ G = G' ∧ Γ = Γ')) := by
  refine calls_WP (Γ := Γ) (G := G) (B := B) Tryd.func4 rfl (by kernel_rfl) ?_ hI
  clear hI
  unfold grapevinelaw19_StateRaised at h
  refine WP.seqP [0, 1, 2] (L' := [(0, .int .i64 a0), (1, .slice Al1 l1.length cl1), (2, .slice Al2 l2.length cl2)]) (by kernel_rfl) ?_
  refine WP.seqR ?_
  refine WL.pure 0 1 [0, 1, 2, 17] (L' := [(0, .int .i64 a0), (1, .slice Al1 l1.length cl1), (2, .slice Al2 l2.length cl2), (17, .int .i64 a0)]) (by kernel_rfl) (by decide) ?_
  rw [Option.bind_eq_some_iff] at h
  obtain ⟨t1, ht2, h⟩ := h
  refine WL.op (op := .call { callee := (.value (.func 8)), args := #[(.tmp 17)], argTypes := #[3] }) (ty := 23) (d := some 18) (g := none) (by kernel_rfl) (by kernel_rfl) (by kernel_rfl) (Does.call (f := 8) (args := [.int .i64 a0]) (by kernel_rfl) (fun W hI => (state_New_calls a0  t1 ht2 hI))) ?_
  rintro _ _ _ (⟨hx, rfl, rfl, rfl⟩ | ⟨x4, hx, bR3, AR3_0, cR3_0, CR3_0, AR3_1, cR3_1, CR3_1, AR3_2, cR3_2, CR3_2, rfl, HR3_0, HR3_1, HR3_2, rfl, rfl⟩)
  · rw [hx] at h
    rw [Option.elim_none] at h
    clear hx
    refine WL.restQ 2 [0, 1, 2, 7] (L' := [(0, .int .i64 a0), (1, .slice Al1 l1.length cl1), (2, .slice Al2 l2.length cl2), (7, .pointer none)]) (by kernel_rfl) ?_
    refine WP.seq ?_
    refine WP.seqP [0, 1, 2, 7, 29] (L' := [(0, .int .i64 a0), (1, .slice Al1 l1.length cl1), (2, .slice Al2 l2.length cl2), (7, .pointer none), (29, .bool true)]) (by kernel_rfl) ?_
    refine WP.yes (by kernel_rfl) ?_
    refine WP.seqR ?_
    rw [Option.bind_eq_some_iff] at h
    obtain ⟨t5, ht6, h⟩ := h
    refine WL.op (op := .call { callee := (.value (.func 10)), args := #[], argTypes := #[] }) (ty := 4) (d := some 30) (g := none) (by kernel_rfl) (by kernel_rfl) (by kernel_rfl) (Does.call (f := 10) (args := []) (by kernel_rfl) (fun W hI => (grapevinelaw19_awake_calls HT k   t5 ht6 hI))) ?_
    rintro _ _ _ ⟨rfl, rfl, rfl⟩
    refine WL.restQ 1 [6] (L' := [(6, .bool t5)]) (by kernel_rfl) ?_
    refine WP.ret ?_
    refine QP.thenR ?_
    obtain rfl := Option.some.inj h
    exact QP.returned [6] [.bool t5] _ (by kernel_rfl) (by kernel_rfl) (by kernel_rfl) (fun W hI => ⟨_, _, _, rfl, ⟨rfl, rfl, rfl⟩, hI⟩)
  · rw [hx] at h
    rw [Option.elim_some] at h
    clear hx
    refine WL.restQ 2 [0, 1, 2, 7] (L' := [(0, .int .i64 a0), (1, .slice Al1 l1.length cl1), (2, .slice Al2 l2.length cl2), (7, .pointer (some ⟨bR3, 0, none⟩))]) (by kernel_rfl) ?_
    refine WP.seq ?_
    rw [Option.bind_eq_some_iff] at h
    obtain ⟨os9, h, hk10⟩ := h
    refine WP.cut (fun L' G' Γ' => ∃ s9 : Bool, s9 = os9 ∧ L' = [(0, .int .i64 a0), (1, .slice Al1 l1.length cl1), (2, .slice Al2 l2.length cl2), (7, .pointer (some ⟨bR3, 0, none⟩)), (29, .bool s9)] ∧ G = G' ∧ [(bR3, .cells #[.slice AR3_0 x4.f0.length cR3_0, .slice AR3_1 x4.f1.length cR3_1, mpv AR3_2] 63 (0, 0))] :: CR3_0 :: CR3_1 :: CR3_2 :: Γ = Γ') ?_ ?_
    · clear hk10
      refine WP.region ?_
      refine WL.pure 0 4 [0, 1, 2, 7, 21, 22] (L' := [(0, .int .i64 a0), (1, .slice Al1 l1.length cl1), (2, .slice Al2 l2.length cl2), (7, .pointer (some ⟨bR3, 0, none⟩)), (21, .bool false), (22, .slice Al1 l1.length cl1)]) (by kernel_rfl) (by decide) ?_
      rw [Option.bind_eq_some_iff] at h
      obtain ⟨t11, ht12, h⟩ := h
      refine WL.op (op := .call { callee := (.value (.func 9)), args := #[(.tmp 22), (.const (.int .i64 30))], argTypes := #[22, 3] }) (ty := 4) (d := some 23) (g := some (2, false)) (by kernel_rfl) (by kernel_rfl) (by kernel_rfl) (Does.call (f := 9) (args := [.slice Al1 l1.length cl1, .int .i64 30]) (by kernel_rfl) (fun W hI => (grapevinelaw19_great_calls k l1 30 Al1 cl1 Hl1 t11 ht12 hI))) ?_
      rintro _ _ _ ⟨rfl, rfl, rfl⟩
      refine WL.pure 5 7 [0, 1, 2, 7, 25] (L' := [(0, .int .i64 a0), (1, .slice Al1 l1.length cl1), (2, .slice Al2 l2.length cl2), (7, .pointer (some ⟨bR3, 0, none⟩)), (25, .bool t11)]) (by kernel_rfl) (by decide) ?_
      refine WL.split 25 (b := t11) (by kernel_rfl) (fun hc => ?_) (fun hc => ?_)
      · replace hc := hc
        rw [if_pos hc] at h
        have hc15 := hc
        clear hc
        refine WL.rest 7 [0, 1, 2, 7, 29] (L' := [(0, .int .i64 a0), (1, .slice Al1 l1.length cl1), (2, .slice Al2 l2.length cl2), (7, .pointer (some ⟨bR3, 0, none⟩)), (29, .bool true)]) (by kernel_rfl) ?_
        refine QP.pick [0, 1, 2, 7, 29] ?_
        exact QP.meet ⟨_, Option.some.inj h, rfl, rfl, rfl⟩
      · replace hc := (Bool.eq_false_iff.1 hc)
        rw [if_neg hc] at h
        have hc15 := hc
        clear hc
        refine WL.rest 7 [0, 1, 2, 7, 29] (L' := [(0, .int .i64 a0), (1, .slice Al1 l1.length cl1), (2, .slice Al2 l2.length cl2), (7, .pointer (some ⟨bR3, 0, none⟩)), (29, .bool (decide ((l2.length : Int) > 20)))]) (by kernel_rfl) ?_
        refine QP.pick [0, 1, 2, 7, 29] ?_
        exact QP.meet ⟨_, Option.some.inj h, rfl, rfl, rfl⟩
    · rintro _ _ _ ⟨s9, rfl, rfl, rfl, rfl⟩
      clear h
      replace h := hk10
      refine WP.cond (b := s9) (by kernel_rfl) (fun hc => ?_) (fun hc => ?_)
      · replace hc := hc
        rw [if_pos hc] at h
        have hc16 := hc
        clear hc
        refine WP.seqR ?_
        rw [Option.bind_eq_some_iff] at h
        obtain ⟨t17, ht18, h⟩ := h
        refine WL.op (op := .call { callee := (.value (.func 10)), args := #[], argTypes := #[] }) (ty := 4) (d := some 30) (g := none) (by kernel_rfl) (by kernel_rfl) (by kernel_rfl) (Does.call (f := 10) (args := []) (by kernel_rfl) (fun W hI => (grapevinelaw19_awake_calls HT k   t17 ht18 hI))) ?_
        rintro _ _ _ ⟨rfl, rfl, rfl⟩
        refine WL.restQ 1 [6] (L' := [(6, .bool t17)]) (by kernel_rfl) ?_
        refine WP.dropAt 3 ?_
        refine WP.dropAt 2 ?_
        refine WP.dropAt 1 ?_
        refine WP.dropAt 0 ?_
        refine WP.ret ?_
        refine QP.thenR ?_
        obtain rfl := Option.some.inj h
        exact QP.returned [6] [.bool t17] _ (by kernel_rfl) (by kernel_rfl) (by kernel_rfl) (fun W hI => ⟨_, _, _, rfl, ⟨rfl, rfl, rfl⟩, hI⟩)
      · replace hc := (Bool.eq_false_iff.1 hc)
        rw [if_neg hc] at h
        have hc16 := hc
        clear hc
        refine WP.skip ?_
        refine QP.next ?_
        refine WP.pick [0, 1, 2, 7] ?_
        refine WP.seq ?_
        refine WP.seqP [0, 1, 2, 7, 8] (L' := [(0, .int .i64 a0), (1, .slice Al1 l1.length cl1), (2, .slice Al2 l2.length cl2), (7, .pointer (some ⟨bR3, 0, none⟩)), (8, .int .i64 0)]) (by kernel_rfl) ?_
        rw [Option.bind_eq_some_iff] at h
        obtain ⟨os21, h, hk22⟩ := h
        refine WP.cutQ (fun L' G' Γ' => ∃ s21 : T63, s21 = os21 ∧ ∃ (As21_f0 : Option Addr), ∃ (cs21_f0 : Nat), ∃ (Cs21_f0 : Chunk), ∃ (As21_f1 : Option Addr), ∃ (cs21_f1 : Nat), ∃ (Cs21_f1 : Chunk), ∃ (As21_f2 : Option Addr), ∃ (cs21_f2 : Nat), ∃ (Cs21_f2 : Chunk), L' = [(0, .int .i64 a0), (2, .slice Al2 l2.length cl2), (7, .pointer (some ⟨bR3, 0, none⟩))] ∧ G = G' ∧ [(bR3, .cells #[.slice As21_f0 s21.f0.length cs21_f0, .slice As21_f1 s21.f1.length cs21_f1, mpv As21_f2] 63 (0, 0))] :: Cs21_f0 :: Cs21_f1 :: Cs21_f2 :: Γ = Γ' ∧ Ow (kInt .i64) G As21_f0 cs21_f0 s21.f0 Cs21_f0 ∧ Ow (kInt .i64) G As21_f1 cs21_f1 s21.f1 Cs21_f1 ∧ MpF m61 G As21_f2 cs21_f2 s21.f2 Cs21_f2) ?_ ?_
        · clear hk22
          refine WP.block ?_
          refine WP.pick [0, 1, 2, 7, 8] ?_
          refine WP.loopF (fun kn25 L' G' Γ' => ∃ (y23 : Int), ∃ (y24 : T63), grapevinelaw19_StateRaised_l0 l1 kn25 y23 y24 = some os21 ∧ ∃ (Ay24_f0 : Option Addr), ∃ (cy24_f0 : Nat), ∃ (Cy24_f0 : Chunk), ∃ (Ay24_f1 : Option Addr), ∃ (cy24_f1 : Nat), ∃ (Cy24_f1 : Chunk), ∃ (Ay24_f2 : Option Addr), ∃ (cy24_f2 : Nat), ∃ (Cy24_f2 : Chunk), L' = [(0, .int .i64 a0), (1, .slice Al1 l1.length cl1), (2, .slice Al2 l2.length cl2), (7, .pointer (some ⟨bR3, 0, none⟩)), (8, .int .i64 y23)] ∧ G = G' ∧ [(bR3, .cells #[.slice Ay24_f0 y24.f0.length cy24_f0, .slice Ay24_f1 y24.f1.length cy24_f1, mpv Ay24_f2] 63 (0, 0))] :: Cy24_f0 :: Cy24_f1 :: Cy24_f2 :: Γ = Γ' ∧ Ow (kInt .i64) G Ay24_f0 cy24_f0 y24.f0 Cy24_f0 ∧ Ow (kInt .i64) G Ay24_f1 cy24_f1 y24.f1 Cy24_f1 ∧ MpF m61 G Ay24_f2 cy24_f2 y24.f2 Cy24_f2) ?_ k ⟨0, x4, h, AR3_0, cR3_0, CR3_0, AR3_1, cR3_1, CR3_1, AR3_2, cR3_2, CR3_2, rfl, rfl, rfl, HR3_0, HR3_1, HR3_2⟩
          clear h
          rintro kn26 _ _ _ ⟨y23, y24, h, Ay24_f0, cy24_f0, Cy24_f0, Ay24_f1, cy24_f1, Cy24_f1, Ay24_f2, cy24_f2, Cy24_f2, rfl, rfl, rfl, Hy24_f0, Hy24_f1, Hy24_f2⟩
          cases kn26 with
          | zero => exact absurd h (by simp [grapevinelaw19_StateRaised_l0])
          | succ kn26 =>
            simp only [grapevinelaw19_StateRaised_l0] at h
            refine WP.seq ?_
            refine WP.seqP [0, 1, 2, 7, 8, 34] (L' := [(0, .int .i64 a0), (1, .slice Al1 l1.length cl1), (2, .slice Al2 l2.length cl2), (7, .pointer (some ⟨bR3, 0, none⟩)), (8, .int .i64 y23), (34, .bool (decide (y23 < (l1.length : Int))))]) (by kernel_rfl) ?_
            refine WP.cond (b := decide (y23 < (l1.length : Int))) (by kernel_rfl) (fun hc => ?_) (fun hc => ?_)
            · replace hc := of_decide_eq_true hc
              rw [if_pos hc] at h
              have hc27 := hc
              clear hc
              refine WP.skip ?_
              refine QP.next ?_
              refine WP.pick [0, 1, 2, 7, 8] ?_
              refine WP.seq ?_
              refine WP.block ?_
              refine WP.region ?_
              refine WL.pure 0 3 [0, 1, 2, 7, 8, 37, 38, 39] (L' := [(0, .int .i64 a0), (1, .slice Al1 l1.length cl1), (2, .slice Al2 l2.length cl2), (7, .pointer (some ⟨bR3, 0, none⟩)), (8, .int .i64 y23), (37, .pointer (some ⟨bR3, 0, none⟩)), (38, .slice Al1 l1.length cl1), (39, .int .i64 y23)]) (by kernel_rfl) (by decide) ?_
              by_cases hb28 : 0 ≤ y23 ∧ y23 < (l1.length : Int)
              case neg => rw [if_neg hb28] at h; cases h
              rw [if_pos hb28] at h
              refine WL.tell (op := .indexAddr 22 (.tmp 38) (.tmp 39)) (ty := 0) (d := some 40) (g := none) (by kernel_rfl) (by kernel_rfl) (by kernel_rfl) (Tells.indexAddr (A := Al1) (n := l1.length) (c := cl1) (k := .i64) (j := y23) (by kernel_rfl) (by kernel_rfl) (Hl1.isSome hb28.1 hb28.2) hb28.1 hb28.2 sl22) ?_
              refine WL.tellE (op := .load 36 (.tmp 40)) (ty := 36) (d := some 41) (g := none) (by kernel_rfl) (by kernel_rfl) (by kernel_rfl) (Hl1.load (agg := true) hb28.1 hb28.2 z36 ag36 (fun h => by cases h) (by kernel_rfl)) ?_
              rintro _ ⟨_, _, rfl, rfl, ⟨_, _, rfl, rfl, ⟨_, _, rfl, rfl, ⟨_, _, rfl, rfl, ⟨_, _, rfl, rfl, ⟨_, _, rfl, rfl, ⟨_, _, rfl, rfl, ⟨_, _, rfl, rfl, ⟨Ae29, ce29, rfl, He29⟩⟩⟩⟩⟩⟩⟩⟩⟩
              replace He29 : Rd (kInt .i64) G Ae29 ce29 ((l1.getD y23.toNat z36).f8) := He29
              refine WL.front (i := 3) rfl ?_
              refine WL.front (i := 3) rfl ?_
              refine WL.front (i := 3) rfl ?_
              refine WL.front (i := 3) rfl ?_
              rw [Option.bind_eq_some_iff] at h
              obtain ⟨t30, ht31, h⟩ := h
              refine WL.op (op := .call { callee := (.value (.func 18)), args := #[(.tmp 37), (.tmp 41)], argTypes := #[23, 36] }) (ty := 0) (d := some 42) (g := none) (by kernel_rfl) (by kernel_rfl) (by kernel_rfl) (Does.call (f := 18) (args := [.pointer (some ⟨bR3, 0, none⟩), .agg #[.int .i64 ((l1.getD y23.toNat z36).f0), .int .i64 ((l1.getD y23.toNat z36).f1), .int .i64 ((l1.getD y23.toNat z36).f2), .int .i64 ((l1.getD y23.toNat z36).f3), .int .i64 ((l1.getD y23.toNat z36).f4), .int .i64 ((l1.getD y23.toNat z36).f5), .int .i64 ((l1.getD y23.toNat z36).f6), .string ((l1.getD y23.toNat z36).f7), .slice Ae29 ((l1.getD y23.toNat z36).f8).length ce29]]) (by kernel_rfl) (fun W hI => (grapevinelaw19_play_calls HT kn26 y24 (l1.getD y23.toNat z36) bR3 Ay24_f0 cy24_f0 Cy24_f0 Hy24_f0 Ay24_f1 cy24_f1 Cy24_f1 Hy24_f1 Ay24_f2 cy24_f2 Cy24_f2 Hy24_f2 Ae29 ce29 He29 t30 ht31 hI))) ?_
              rintro _ _ _ ⟨AR32p0_0, cR32p0_0, CR32p0_0, AR32p0_1, cR32p0_1, CR32p0_1, AR32p0_2, cR32p0_2, CR32p0_2, rfl, HR32p0_0, HR32p0_1, HR32p0_2, rfl, rfl⟩
              refine WL.rest 6 [0, 1, 2, 7, 8] (L' := [(0, .int .i64 a0), (1, .slice Al1 l1.length cl1), (2, .slice Al2 l2.length cl2), (7, .pointer (some ⟨bR3, 0, none⟩)), (8, .int .i64 y23)]) (by kernel_rfl) ?_
              refine QP.blockN ?_
              refine QP.next ?_
              refine WP.pick [0, 1, 2, 7, 8] ?_
              refine WP.regionP [0, 1, 2, 7, 8] (L' := [(0, .int .i64 a0), (1, .slice Al1 l1.length cl1), (2, .slice Al2 l2.length cl2), (7, .pointer (some ⟨bR3, 0, none⟩)), (8, .int .i64 (IntKind.i64.wrap (y23 + 1)))]) (by kernel_rfl) ?_
              refine QP.front (i := 3) rfl ?_
              refine QP.front (i := 3) rfl ?_
              refine QP.front (i := 3) rfl ?_
              refine QP.front (i := 3) rfl ?_
              refine QP.pick [0, 1, 2, 7, 8] ?_
              exact QP.meet ⟨kn26, Nat.lt_succ_self _, (IntKind.i64.wrap (y23 + 1)), t30, h, AR32p0_0, cR32p0_0, CR32p0_0, AR32p0_1, cR32p0_1, CR32p0_1, AR32p0_2, cR32p0_2, CR32p0_2, rfl, rfl, rfl, HR32p0_0, HR32p0_1, HR32p0_2⟩
            · replace hc := of_decide_eq_false hc
              rw [if_neg hc] at h
              have hc27 := hc
              clear hc
              refine WP.exit ?_
              refine QP.thenE ?_
              refine QP.thenE ?_
              refine QP.blockE ?_
              refine QP.pick [0, 2, 7] ?_
              exact QP.meet ⟨_, Option.some.inj h, Ay24_f0, cy24_f0, Cy24_f0, Ay24_f1, cy24_f1, Cy24_f1, Ay24_f2, cy24_f2, Cy24_f2, rfl, rfl, rfl, Hy24_f0, Hy24_f1, Hy24_f2⟩
        · rintro _ _ _ ⟨s21, rfl, As21_f0, cs21_f0, Cs21_f0, As21_f1, cs21_f1, Cs21_f1, As21_f2, cs21_f2, Cs21_f2, rfl, rfl, rfl, Hs21_f0, Hs21_f1, Hs21_f2⟩
          clear h
          replace h := hk22
          refine QP.next ?_
          refine WP.pick [0, 2, 7] ?_
          refine WP.seqR ?_
          refine WL.pure 0 1 [0, 2, 7, 43] (L' := [(0, .int .i64 a0), (2, .slice Al2 l2.length cl2), (7, .pointer (some ⟨bR3, 0, none⟩)), (43, .pointer (some ⟨bR3, 0, none⟩))]) (by kernel_rfl) (by decide) ?_
          refine WL.front (i := 3) rfl ?_
          refine WL.front (i := 3) rfl ?_
          refine WL.front (i := 3) rfl ?_
          refine WL.front (i := 3) rfl ?_
          rw [Option.bind_eq_some_iff] at h
          obtain ⟨t34, ht35, h⟩ := h
          refine WL.op (op := .call { callee := (.value (.func 11)), args := #[(.tmp 43)], argTypes := #[23] }) (ty := 27) (d := some 44) (g := none) (by kernel_rfl) (by kernel_rfl) (by kernel_rfl) (Does.call (f := 11) (args := [.pointer (some ⟨bR3, 0, none⟩)]) (by kernel_rfl) (fun W hI => (state_State_V_calls s21 bR3 As21_f0 cs21_f0 Cs21_f0 Hs21_f0 As21_f1 cs21_f1 Cs21_f1 Hs21_f1 As21_f2 cs21_f2 Cs21_f2 Hs21_f2 t34 ht35 hI))) ?_
          rintro _ _ _ ⟨AR36, cR36, CR36, rfl, HR36, rfl, rfl⟩
          refine WL.pure 2 3 [0, 2, 7, 44, 45] (L' := [(0, .int .i64 a0), (2, .slice Al2 l2.length cl2), (7, .pointer (some ⟨bR3, 0, none⟩)), (44, .slice AR36 t34.length cR36), (45, .pointer (some ⟨bR3, 0, none⟩))]) (by kernel_rfl) (by decide) ?_
          refine WL.front (i := 4) rfl ?_
          refine WL.front (i := 4) rfl ?_
          refine WL.front (i := 4) rfl ?_
          refine WL.front (i := 4) rfl ?_
          rw [Option.bind_eq_some_iff] at h
          obtain ⟨t38, ht39, h⟩ := h
          refine WL.op (op := .call { callee := (.value (.func 12)), args := #[(.tmp 45)], argTypes := #[23] }) (ty := 27) (d := some 46) (g := none) (by kernel_rfl) (by kernel_rfl) (by kernel_rfl) (Does.call (f := 12) (args := [.pointer (some ⟨bR3, 0, none⟩)]) (by kernel_rfl) (fun W hI => (state_State_W_calls s21 bR3 As21_f0 cs21_f0 Cs21_f0 Hs21_f0 As21_f1 cs21_f1 Cs21_f1 Hs21_f1 As21_f2 cs21_f2 Cs21_f2 Hs21_f2 t38 ht39 hI))) ?_
          rintro _ _ _ ⟨AR40, cR40, CR40, rfl, HR40, rfl, rfl⟩
          refine WL.pure 4 5 [0, 2, 7, 44, 46, 47] (L' := [(0, .int .i64 a0), (2, .slice Al2 l2.length cl2), (7, .pointer (some ⟨bR3, 0, none⟩)), (44, .slice AR36 t34.length cR36), (46, .slice AR40 t38.length cR40), (47, .pointer (some ⟨bR3, 0, none⟩))]) (by kernel_rfl) (by decide) ?_
          refine WL.front (i := 4) rfl ?_
          refine WL.front (i := 4) rfl ?_
          refine WL.front (i := 4) rfl ?_
          refine WL.front (i := 4) rfl ?_
          rw [Option.bind_eq_some_iff] at h
          obtain ⟨t42, ht43, h⟩ := h
          refine WL.op (op := .call { callee := (.value (.func 19)), args := #[(.tmp 47)], argTypes := #[23] }) (ty := 45) (d := some 48) (g := none) (by kernel_rfl) (by kernel_rfl) (by kernel_rfl) (Does.call (f := 19) (args := [.pointer (some ⟨bR3, 0, none⟩)]) (by kernel_rfl) (fun W hI => (state_State_Records_calls k s21 bR3 As21_f0 cs21_f0 Cs21_f0 Hs21_f0 As21_f1 cs21_f1 Cs21_f1 Hs21_f1 As21_f2 cs21_f2 Cs21_f2 Hs21_f2 t42 ht43 hI))) ?_
          rintro _ _ _ ⟨AR44, cR44, CR44, rfl, HR44, rfl, rfl⟩
          refine WL.restQ 6 [0, 2, 7, 9, 10, 11] (L' := [(0, .int .i64 a0), (2, .slice Al2 l2.length cl2), (7, .pointer (some ⟨bR3, 0, none⟩)), (9, .slice AR36 t34.length cR36), (10, .slice AR40 t38.length cR40), (11, .slice AR44 t42.length cR44)]) (by kernel_rfl) ?_
          refine WP.seq ?_
          refine WP.seqR ?_
          refine WL.pure 0 1 [0, 2, 7, 9, 10, 11, 49] (L' := [(0, .int .i64 a0), (2, .slice Al2 l2.length cl2), (7, .pointer (some ⟨bR3, 0, none⟩)), (9, .slice AR36 t34.length cR36), (10, .slice AR40 t38.length cR40), (11, .slice AR44 t42.length cR44), (49, .pointer (some ⟨bR3, 0, none⟩))]) (by kernel_rfl) (by decide) ?_
          refine WL.front (i := 4) rfl ?_
          refine WL.front (i := 4) rfl ?_
          refine WL.front (i := 4) rfl ?_
          refine WL.front (i := 4) rfl ?_
          rw [Option.bind_eq_some_iff] at h
          obtain ⟨t46, ht47, h⟩ := h
          refine WL.op (op := .call { callee := (.value (.func 17)), args := #[(.tmp 49)], argTypes := #[23] }) (ty := 4) (d := some 50) (g := none) (by kernel_rfl) (by kernel_rfl) (by kernel_rfl) (Does.call (f := 17) (args := [.pointer (some ⟨bR3, 0, none⟩)]) (by kernel_rfl) (fun W hI => (grapevinelaw19_whole_calls k s21 bR3 As21_f0 cs21_f0 Cs21_f0 Hs21_f0 As21_f1 cs21_f1 Cs21_f1 Hs21_f1 As21_f2 cs21_f2 Cs21_f2 Hs21_f2 t46 ht47 hI))) ?_
          rintro _ _ _ ⟨rfl, rfl, rfl⟩
          refine WL.restQ 2 [0, 2, 7, 9, 10, 11, 51] (L' := [(0, .int .i64 a0), (2, .slice Al2 l2.length cl2), (7, .pointer (some ⟨bR3, 0, none⟩)), (9, .slice AR36 t34.length cR36), (10, .slice AR40 t38.length cR40), (11, .slice AR44 t42.length cR44), (51, .bool (!t46))]) (by kernel_rfl) ?_
          refine WP.cond (b := (!t46)) (by kernel_rfl) (fun hc => ?_) (fun hc => ?_)
          · replace hc := hc
            rw [if_pos hc] at h
            have hc50 := hc
            clear hc
            refine WP.seqP [6] (L' := [(6, .bool false)]) (by kernel_rfl) ?_
            refine WP.dropAt 6 ?_
            refine WP.dropAt 5 ?_
            refine WP.dropAt 4 ?_
            refine WP.dropAt 3 ?_
            refine WP.dropAt 2 ?_
            refine WP.dropAt 1 ?_
            refine WP.dropAt 0 ?_
            refine WP.ret ?_
            refine QP.thenR ?_
            obtain rfl := Option.some.inj h
            exact QP.returned [6] [.bool false] _ (by kernel_rfl) (by kernel_rfl) (by kernel_rfl) (fun W hI => ⟨_, _, _, rfl, ⟨rfl, rfl, rfl⟩, hI⟩)
          · replace hc := (Bool.eq_false_iff.1 hc)
            rw [if_neg hc] at h
            have hc50 := hc
            clear hc
            refine WP.skip ?_
            refine QP.next ?_
            refine WP.pick [0, 2, 7, 9, 10, 11] ?_
            refine WP.seqR ?_
            refine WL.pure 0 2 [0, 2, 7, 9, 10, 11, 52, 53] (L' := [(0, .int .i64 a0), (2, .slice Al2 l2.length cl2), (7, .pointer (some ⟨bR3, 0, none⟩)), (9, .slice AR36 t34.length cR36), (10, .slice AR40 t38.length cR40), (11, .slice AR44 t42.length cR44), (52, .pointer (some ⟨bR3, 0, none⟩)), (53, .slice Al2 l2.length cl2)]) (by kernel_rfl) (by decide) ?_
            refine WL.front (i := 3) rfl ?_
            refine WL.front (i := 3) rfl ?_
            refine WL.front (i := 3) rfl ?_
            refine WL.front (i := 3) rfl ?_
            rw [Option.bind_eq_some_iff] at h
            obtain ⟨t51, ht52, h⟩ := h
            refine WL.op (op := .call { callee := (.value (.func 15)), args := #[(.tmp 52), (.tmp 53)], argTypes := #[23, 27] }) (ty := 3) (d := some 54) (g := none) (by kernel_rfl) (by kernel_rfl) (by kernel_rfl) (Does.call (f := 15) (args := [.pointer (some ⟨bR3, 0, none⟩), .slice Al2 l2.length cl2]) (by kernel_rfl) (fun W hI => (state_State_Raise_calls k s21 l2 bR3 As21_f0 cs21_f0 Cs21_f0 Hs21_f0 As21_f1 cs21_f1 Cs21_f1 Hs21_f1 As21_f2 cs21_f2 Cs21_f2 Hs21_f2 Al2 cl2 Hl2 t51 ht52 hI))) ?_
            rintro _ _ _ ⟨AR53p0_0, cR53p0_0, CR53p0_0, AR53p0_1, cR53p0_1, CR53p0_1, AR53p0_2, cR53p0_2, CR53p0_2, rfl, HR53p0_0, HR53p0_1, HR53p0_2, rfl, rfl⟩
            refine WL.restQ 3 [0, 2, 7, 9, 10, 11, 12] (L' := [(0, .int .i64 a0), (2, .slice Al2 l2.length cl2), (7, .pointer (some ⟨bR3, 0, none⟩)), (9, .slice AR36 t34.length cR36), (10, .slice AR40 t38.length cR40), (11, .slice AR44 t42.length cR44), (12, .int .i64 t51.1)]) (by kernel_rfl) ?_
            refine WP.seq ?_
            refine WP.seqP [0, 2, 7, 9, 10, 11, 12, 56] (L' := [(0, .int .i64 a0), (2, .slice Al2 l2.length cl2), (7, .pointer (some ⟨bR3, 0, none⟩)), (9, .slice AR36 t34.length cR36), (10, .slice AR40 t38.length cR40), (11, .slice AR44 t42.length cR44), (12, .int .i64 t51.1), (56, .bool (decide (t51.1 < 0)))]) (by kernel_rfl) ?_
            refine WP.cond (b := decide (t51.1 < 0)) (by kernel_rfl) (fun hc => ?_) (fun hc => ?_)
            · replace hc := of_decide_eq_true hc
              rw [if_pos hc] at h
              have hc55 := hc
              clear hc
              rw [Option.bind_eq_some_iff] at h
              obtain ⟨os56, h, hk57⟩ := h
              refine WP.cut (fun L' G' Γ' => ∃ s56 : Bool, s56 = os56 ∧ L' = [(6, .bool s56)] ∧ G = G' ∧ Γ = Γ') ?_ ?_
              · clear hk57
                refine WP.region ?_
                refine WL.pure 0 3 [0, 2, 7, 9, 10, 11, 59] (L' := [(0, .int .i64 a0), (2, .slice Al2 l2.length cl2), (7, .pointer (some ⟨bR3, 0, none⟩)), (9, .slice AR36 t34.length cR36), (10, .slice AR40 t38.length cR40), (11, .slice AR44 t42.length cR44), (59, .bool (t51.1 == (-1)))]) (by kernel_rfl) (by decide) ?_
                refine WL.split 59 (b := (t51.1 == (-1))) (by kernel_rfl) (fun hc => ?_) (fun hc => ?_)
                · replace hc := eq_of_beq hc
                  rw [if_pos hc] at h
                  have hc58 := hc
                  clear hc
                  refine WL.pure 3 5 [7, 9, 10, 11, 59, 60, 61] (L' := [(7, .pointer (some ⟨bR3, 0, none⟩)), (9, .slice AR36 t34.length cR36), (10, .slice AR40 t38.length cR40), (11, .slice AR44 t42.length cR44), (59, .bool true), (60, .slice Al2 l2.length cl2), (61, .int .i64 a0)]) (by kernel_rfl) (by decide) ?_
                  rw [Option.bind_eq_some_iff] at h
                  obtain ⟨t59, ht60, h⟩ := h
                  refine WL.op (op := .call { callee := (.value (.func 20)), args := #[(.tmp 60), (.tmp 61)], argTypes := #[27, 3] }) (ty := 4) (d := some 62) (g := some (2, true)) (by kernel_rfl) (by kernel_rfl) (by kernel_rfl) (Does.call (f := 20) (args := [.slice Al2 l2.length cl2, .int .i64 a0]) (by kernel_rfl) (fun W hI => (grapevineref3_May_calls k l2 a0 Al2 cl2 Hl2 t59 ht60 hI))) ?_
                  rintro _ _ _ ⟨rfl, rfl, rfl⟩
                  refine WL.pure 6 9 [7, 9, 10, 11, 65] (L' := [(7, .pointer (some ⟨bR3, 0, none⟩)), (9, .slice AR36 t34.length cR36), (10, .slice AR40 t38.length cR40), (11, .slice AR44 t42.length cR44), (65, .bool (!t59))]) (by kernel_rfl) (by decide) ?_
                  refine WL.split 65 (b := (!t59)) (by kernel_rfl) (fun hc => ?_) (fun hc => ?_)
                  · replace hc := hc
                    rw [if_pos hc] at h
                    have hc63 := hc
                    clear hc
                    refine WL.pure 9 10 [7, 9, 10, 11, 65, 66] (L' := [(7, .pointer (some ⟨bR3, 0, none⟩)), (9, .slice AR36 t34.length cR36), (10, .slice AR40 t38.length cR40), (11, .slice AR44 t42.length cR44), (65, .bool true), (66, .pointer (some ⟨bR3, 0, none⟩))]) (by kernel_rfl) (by decide) ?_
                    refine WL.front (i := 3) rfl ?_
                    refine WL.front (i := 3) rfl ?_
                    refine WL.front (i := 3) rfl ?_
                    refine WL.front (i := 3) rfl ?_
                    rw [Option.bind_eq_some_iff] at h
                    obtain ⟨t64, ht65, h⟩ := h
                    refine WL.op (op := .call { callee := (.value (.func 11)), args := #[(.tmp 66)], argTypes := #[23] }) (ty := 27) (d := some 67) (g := some (8, true)) (by kernel_rfl) (by kernel_rfl) (by kernel_rfl) (Does.call (f := 11) (args := [.pointer (some ⟨bR3, 0, none⟩)]) (by kernel_rfl) (fun W hI => (state_State_V_calls t51.2 bR3 AR53p0_0 cR53p0_0 CR53p0_0 HR53p0_0 AR53p0_1 cR53p0_1 CR53p0_1 HR53p0_1 AR53p0_2 cR53p0_2 CR53p0_2 HR53p0_2 t64 ht65 hI))) ?_
                    rintro _ _ _ ⟨AR66, cR66, CR66, rfl, HR66, rfl, rfl⟩
                    refine WL.pure 11 12 [7, 10, 11, 65, 67, 68] (L' := [(7, .pointer (some ⟨bR3, 0, none⟩)), (10, .slice AR40 t38.length cR40), (11, .slice AR44 t42.length cR44), (65, .bool true), (67, .slice AR66 t64.length cR66), (68, .slice AR36 t34.length cR36)]) (by kernel_rfl) (by decide) ?_
                    rw [Option.bind_eq_some_iff] at h
                    obtain ⟨t68, ht69, h⟩ := h
                    refine WL.op (op := .call { callee := (.value (.func 21)), args := #[(.tmp 67), (.tmp 68)], argTypes := #[27, 27] }) (ty := 4) (d := some 69) (g := some (8, true)) (by kernel_rfl) (by kernel_rfl) (by kernel_rfl) (Does.call (Φ := fun v' G' Γ' => v' = .bool t68 ∧ G = G' ∧ CR66 :: [(bR3, .cells #[.slice AR53p0_0 t51.2.f0.length cR53p0_0, .slice AR53p0_1 t51.2.f1.length cR53p0_1, mpv AR53p0_2] 63 (0, 0))] :: CR53p0_0 :: CR53p0_1 :: CR53p0_2 :: CR44 :: CR40 :: CR36 :: Γ = Γ') (f := 21) (args := [.slice AR66 t64.length cR66, .slice AR36 t34.length cR36]) (by kernel_rfl) (fun W hI => (Calls.lendN (Φ := fun v' N => v' = .bool t68 ∧ N = []) (H := []) (i := 0) rfl hI (fun _ e l72 nl72 hI => by subst e; exact Calls.lendN (Φ := fun v' N => v' = .bool t68 ∧ N = []) (H := []) (i := 7) rfl hI (fun _ e l73 nl73 hI => by subst e; exact (((grapevinelaw0_SameInts_calls k t64 t34 AR66 cR66 ((HR66.rdN l72 nl72).mono l73) AR36 cR36 ((HR36.mono l72).rdN l73 nl73) t68 ht69 hI)).mono fun _ _ hr => by obtain ⟨_, _, _, rfl, hd, hI⟩ := hr; obtain ⟨rfl, rfl, rfl⟩ := hd; exact ⟨_, _, _, rfl, ⟨[], ⟨rfl, rfl⟩, rfl, rfl⟩, hI⟩)))).mono fun _ _ hr => by obtain ⟨_, _, _, rfl, ⟨_, hd, rfl, rfl⟩, hI⟩ := hr; obtain ⟨rfl, rfl⟩ := hd; exact ⟨_, _, _, rfl, ⟨rfl, rfl, rfl⟩, hI⟩)) ?_
                    rintro _ _ _ ⟨rfl, rfl, rfl⟩
                    refine WL.pure 13 15 [7, 10, 11, 71] (L' := [(7, .pointer (some ⟨bR3, 0, none⟩)), (10, .slice AR40 t38.length cR40), (11, .slice AR44 t42.length cR44), (71, .bool t68)]) (by kernel_rfl) (by decide) ?_
                    refine WL.split 71 (b := t68) (by kernel_rfl) (fun hc => ?_) (fun hc => ?_)
                    · replace hc := hc
                      rw [if_pos hc] at h
                      have hc74 := hc
                      clear hc
                      refine WL.pure 15 16 [7, 10, 11, 71, 72] (L' := [(7, .pointer (some ⟨bR3, 0, none⟩)), (10, .slice AR40 t38.length cR40), (11, .slice AR44 t42.length cR44), (71, .bool true), (72, .pointer (some ⟨bR3, 0, none⟩))]) (by kernel_rfl) (by decide) ?_
                      refine WL.front (i := 4) rfl ?_
                      refine WL.front (i := 4) rfl ?_
                      refine WL.front (i := 4) rfl ?_
                      refine WL.front (i := 4) rfl ?_
                      rw [Option.bind_eq_some_iff] at h
                      obtain ⟨t75, ht76, h⟩ := h
                      refine WL.op (op := .call { callee := (.value (.func 12)), args := #[(.tmp 72)], argTypes := #[23] }) (ty := 27) (d := some 73) (g := some (14, true)) (by kernel_rfl) (by kernel_rfl) (by kernel_rfl) (Does.call (f := 12) (args := [.pointer (some ⟨bR3, 0, none⟩)]) (by kernel_rfl) (fun W hI => (state_State_W_calls t51.2 bR3 AR53p0_0 cR53p0_0 CR53p0_0 HR53p0_0 AR53p0_1 cR53p0_1 CR53p0_1 HR53p0_1 AR53p0_2 cR53p0_2 CR53p0_2 HR53p0_2 t75 ht76 hI))) ?_
                      rintro _ _ _ ⟨AR77, cR77, CR77, rfl, HR77, rfl, rfl⟩
                      refine WL.pure 17 18 [7, 11, 71, 73, 74] (L' := [(7, .pointer (some ⟨bR3, 0, none⟩)), (11, .slice AR44 t42.length cR44), (71, .bool true), (73, .slice AR77 t75.length cR77), (74, .slice AR40 t38.length cR40)]) (by kernel_rfl) (by decide) ?_
                      rw [Option.bind_eq_some_iff] at h
                      obtain ⟨t79, ht80, h⟩ := h
                      refine WL.op (op := .call { callee := (.value (.func 21)), args := #[(.tmp 73), (.tmp 74)], argTypes := #[27, 27] }) (ty := 4) (d := some 75) (g := some (14, true)) (by kernel_rfl) (by kernel_rfl) (by kernel_rfl) (Does.call (Φ := fun v' G' Γ' => v' = .bool t79 ∧ G = G' ∧ CR77 :: [(bR3, .cells #[.slice AR53p0_0 t51.2.f0.length cR53p0_0, .slice AR53p0_1 t51.2.f1.length cR53p0_1, mpv AR53p0_2] 63 (0, 0))] :: CR53p0_0 :: CR53p0_1 :: CR53p0_2 :: CR66 :: CR44 :: CR40 :: CR36 :: Γ = Γ') (f := 21) (args := [.slice AR77 t75.length cR77, .slice AR40 t38.length cR40]) (by kernel_rfl) (fun W hI => (Calls.lendN (Φ := fun v' N => v' = .bool t79 ∧ N = []) (H := []) (i := 0) rfl hI (fun _ e l83 nl83 hI => by subst e; exact Calls.lendN (Φ := fun v' N => v' = .bool t79 ∧ N = []) (H := []) (i := 7) rfl hI (fun _ e l84 nl84 hI => by subst e; exact (((grapevinelaw0_SameInts_calls k t75 t38 AR77 cR77 ((HR77.rdN l83 nl83).mono l84) AR40 cR40 ((HR40.mono l83).rdN l84 nl84) t79 ht80 hI)).mono fun _ _ hr => by obtain ⟨_, _, _, rfl, hd, hI⟩ := hr; obtain ⟨rfl, rfl, rfl⟩ := hd; exact ⟨_, _, _, rfl, ⟨[], ⟨rfl, rfl⟩, rfl, rfl⟩, hI⟩)))).mono fun _ _ hr => by obtain ⟨_, _, _, rfl, ⟨_, hd, rfl, rfl⟩, hI⟩ := hr; obtain ⟨rfl, rfl⟩ := hd; exact ⟨_, _, _, rfl, ⟨rfl, rfl, rfl⟩, hI⟩)) ?_
                      rintro _ _ _ ⟨rfl, rfl, rfl⟩
                      refine WL.pure 19 21 [7, 11, 77] (L' := [(7, .pointer (some ⟨bR3, 0, none⟩)), (11, .slice AR44 t42.length cR44), (77, .bool t79)]) (by kernel_rfl) (by decide) ?_
                      refine WL.split 77 (b := t79) (by kernel_rfl) (fun hc => ?_) (fun hc => ?_)
                      · replace hc := hc
                        rw [if_pos hc] at h
                        have hc85 := hc
                        clear hc
                        refine WL.pure 21 22 [11, 77, 78] (L' := [(11, .slice AR44 t42.length cR44), (77, .bool true), (78, .pointer (some ⟨bR3, 0, none⟩))]) (by kernel_rfl) (by decide) ?_
                        refine WL.front (i := 4) rfl ?_
                        refine WL.front (i := 4) rfl ?_
                        refine WL.front (i := 4) rfl ?_
                        refine WL.front (i := 4) rfl ?_
                        rw [Option.bind_eq_some_iff] at h
                        obtain ⟨t86, ht87, h⟩ := h
                        refine WL.op (op := .call { callee := (.value (.func 19)), args := #[(.tmp 78)], argTypes := #[23] }) (ty := 45) (d := some 79) (g := some (20, true)) (by kernel_rfl) (by kernel_rfl) (by kernel_rfl) (Does.call (f := 19) (args := [.pointer (some ⟨bR3, 0, none⟩)]) (by kernel_rfl) (fun W hI => (state_State_Records_calls k t51.2 bR3 AR53p0_0 cR53p0_0 CR53p0_0 HR53p0_0 AR53p0_1 cR53p0_1 CR53p0_1 HR53p0_1 AR53p0_2 cR53p0_2 CR53p0_2 HR53p0_2 t86 ht87 hI))) ?_
                        rintro _ _ _ ⟨AR88, cR88, CR88, rfl, HR88, rfl, rfl⟩
                        refine WL.pure 23 24 [77, 79, 80] (L' := [(77, .bool true), (79, .slice AR88 t86.length cR88), (80, .slice AR44 t42.length cR44)]) (by kernel_rfl) (by decide) ?_
                        rw [Option.bind_eq_some_iff] at h
                        obtain ⟨t90, ht91, h⟩ := h
                        refine WL.op (op := .call { callee := (.value (.func 22)), args := #[(.tmp 79), (.tmp 80)], argTypes := #[45, 45] }) (ty := 4) (d := some 81) (g := some (20, true)) (by kernel_rfl) (by kernel_rfl) (by kernel_rfl) (Does.call (Φ := fun v' G' Γ' => v' = .bool t90 ∧ G = G' ∧ CR88 :: [(bR3, .cells #[.slice AR53p0_0 t51.2.f0.length cR53p0_0, .slice AR53p0_1 t51.2.f1.length cR53p0_1, mpv AR53p0_2] 63 (0, 0))] :: CR53p0_0 :: CR53p0_1 :: CR53p0_2 :: CR77 :: CR66 :: CR44 :: CR40 :: CR36 :: Γ = Γ') (f := 22) (args := [.slice AR88 t86.length cR88, .slice AR44 t42.length cR44]) (by kernel_rfl) (fun W hI => (Calls.lendN (Φ := fun v' N => v' = .bool t90 ∧ N = []) (H := []) (i := 0) rfl hI (fun _ e l94 nl94 hI => by subst e; exact Calls.lendN (Φ := fun v' N => v' = .bool t90 ∧ N = []) (H := []) (i := 7) rfl hI (fun _ e l95 nl95 hI => by subst e; exact (((grapevinelaw0_SameRecords_calls k t86 t42 AR88 cR88 ((HR88.rdN l94 nl94).mono l95) AR44 cR44 ((HR44.mono l94).rdN l95 nl95) t90 ht91 hI)).mono fun _ _ hr => by obtain ⟨_, _, _, rfl, hd, hI⟩ := hr; obtain ⟨rfl, rfl, rfl⟩ := hd; exact ⟨_, _, _, rfl, ⟨[], ⟨rfl, rfl⟩, rfl, rfl⟩, hI⟩)))).mono fun _ _ hr => by obtain ⟨_, _, _, rfl, ⟨_, hd, rfl, rfl⟩, hI⟩ := hr; obtain ⟨rfl, rfl⟩ := hd; exact ⟨_, _, _, rfl, ⟨rfl, rfl, rfl⟩, hI⟩)) ?_
                        rintro _ _ _ ⟨rfl, rfl, rfl⟩
                        refine WL.pure 25 27 [83] (L' := [(83, .bool t90)]) (by kernel_rfl) (by decide) ?_
                        refine WL.split 83 (b := t90) (by kernel_rfl) (fun hc => ?_) (fun hc => ?_)
                        · replace hc := hc
                          rw [if_pos hc] at h
                          have hc96 := hc
                          clear hc
                          rw [Option.bind_eq_some_iff] at h
                          obtain ⟨t97, ht98, h⟩ := h
                          refine WL.op (op := .call { callee := (.value (.func 10)), args := #[], argTypes := #[] }) (ty := 4) (d := some 84) (g := some (26, true)) (by kernel_rfl) (by kernel_rfl) (by kernel_rfl) (Does.call (f := 10) (args := []) (by kernel_rfl) (fun W hI => (grapevinelaw19_awake_calls HT k   t97 ht98 hI))) ?_
                          rintro _ _ _ ⟨rfl, rfl, rfl⟩
                          refine WL.rest 28 [6] (L' := [(6, .bool t97)]) (by kernel_rfl) ?_
                          refine QP.dropAt 9 ?_
                          refine QP.dropAt 8 ?_
                          refine QP.dropAt 7 ?_
                          refine QP.dropAt 6 ?_
                          refine QP.dropAt 5 ?_
                          refine QP.dropAt 4 ?_
                          refine QP.dropAt 3 ?_
                          refine QP.dropAt 2 ?_
                          refine QP.dropAt 1 ?_
                          refine QP.dropAt 0 ?_
                          refine QP.pick [6] ?_
                          exact QP.meet ⟨_, Option.some.inj h, rfl, rfl, rfl⟩
                        · replace hc := (Bool.eq_false_iff.1 hc)
                          rw [if_neg hc] at h
                          have hc96 := hc
                          clear hc
                          refine WL.rest 27 [6] (L' := [(6, .bool false)]) (by kernel_rfl) ?_
                          refine QP.dropAt 9 ?_
                          refine QP.dropAt 8 ?_
                          refine QP.dropAt 7 ?_
                          refine QP.dropAt 6 ?_
                          refine QP.dropAt 5 ?_
                          refine QP.dropAt 4 ?_
                          refine QP.dropAt 3 ?_
                          refine QP.dropAt 2 ?_
                          refine QP.dropAt 1 ?_
                          refine QP.dropAt 0 ?_
                          refine QP.pick [6] ?_
                          exact QP.meet ⟨_, Option.some.inj h, rfl, rfl, rfl⟩
                      · replace hc := (Bool.eq_false_iff.1 hc)
                        rw [if_neg hc] at h
                        have hc85 := hc
                        clear hc
                        refine WL.rest 21 [6] (L' := [(6, .bool false)]) (by kernel_rfl) ?_
                        refine QP.dropAt 8 ?_
                        refine QP.dropAt 7 ?_
                        refine QP.dropAt 6 ?_
                        refine QP.dropAt 5 ?_
                        refine QP.dropAt 4 ?_
                        refine QP.dropAt 3 ?_
                        refine QP.dropAt 2 ?_
                        refine QP.dropAt 1 ?_
                        refine QP.dropAt 0 ?_
                        refine QP.pick [6] ?_
                        exact QP.meet ⟨_, Option.some.inj h, rfl, rfl, rfl⟩
                    · replace hc := (Bool.eq_false_iff.1 hc)
                      rw [if_neg hc] at h
                      have hc74 := hc
                      clear hc
                      refine WL.rest 15 [6] (L' := [(6, .bool false)]) (by kernel_rfl) ?_
                      refine QP.dropAt 7 ?_
                      refine QP.dropAt 6 ?_
                      refine QP.dropAt 5 ?_
                      refine QP.dropAt 4 ?_
                      refine QP.dropAt 3 ?_
                      refine QP.dropAt 2 ?_
                      refine QP.dropAt 1 ?_
                      refine QP.dropAt 0 ?_
                      refine QP.pick [6] ?_
                      exact QP.meet ⟨_, Option.some.inj h, rfl, rfl, rfl⟩
                  · replace hc := (Bool.eq_false_iff.1 hc)
                    rw [if_neg hc] at h
                    have hc63 := hc
                    clear hc
                    refine WL.rest 9 [6] (L' := [(6, .bool false)]) (by kernel_rfl) ?_
                    refine QP.dropAt 6 ?_
                    refine QP.dropAt 5 ?_
                    refine QP.dropAt 4 ?_
                    refine QP.dropAt 3 ?_
                    refine QP.dropAt 2 ?_
                    refine QP.dropAt 1 ?_
                    refine QP.dropAt 0 ?_
                    refine QP.pick [6] ?_
                    exact QP.meet ⟨_, Option.some.inj h, rfl, rfl, rfl⟩
                · replace hc := ne_of_beq_false hc
                  rw [if_neg hc] at h
                  have hc58 := hc
                  clear hc
                  refine WL.rest 3 [6] (L' := [(6, .bool false)]) (by kernel_rfl) ?_
                  refine QP.dropAt 6 ?_
                  refine QP.dropAt 5 ?_
                  refine QP.dropAt 4 ?_
                  refine QP.dropAt 3 ?_
                  refine QP.dropAt 2 ?_
                  refine QP.dropAt 1 ?_
                  refine QP.dropAt 0 ?_
                  refine QP.pick [6] ?_
                  exact QP.meet ⟨_, Option.some.inj h, rfl, rfl, rfl⟩
              · rintro _ _ _ ⟨s56, rfl, rfl, rfl, rfl⟩
                clear h
                replace h := hk57
                refine WP.ret ?_
                refine QP.thenR ?_
                obtain rfl := Option.some.inj h
                exact QP.returned [6] [.bool s56] _ (by kernel_rfl) (by kernel_rfl) (by kernel_rfl) (fun W hI => ⟨_, _, _, rfl, ⟨rfl, rfl, rfl⟩, hI⟩)
            · replace hc := of_decide_eq_false hc
              rw [if_neg hc] at h
              have hc55 := hc
              clear hc
              refine WP.skip ?_
              refine QP.next ?_
              refine WP.pick [2, 7, 9, 10, 11, 12] ?_
              refine WP.seqR ?_
              refine WL.pure 0 1 [2, 7, 9, 10, 11, 12, 86] (L' := [(2, .slice Al2 l2.length cl2), (7, .pointer (some ⟨bR3, 0, none⟩)), (9, .slice AR36 t34.length cR36), (10, .slice AR40 t38.length cR40), (11, .slice AR44 t42.length cR44), (12, .int .i64 t51.1), (86, .pointer (some ⟨bR3, 0, none⟩))]) (by kernel_rfl) (by decide) ?_
              refine WL.front (i := 3) rfl ?_
              refine WL.front (i := 3) rfl ?_
              refine WL.front (i := 3) rfl ?_
              refine WL.front (i := 3) rfl ?_
              rw [Option.bind_eq_some_iff] at h
              obtain ⟨t101, ht102, h⟩ := h
              refine WL.op (op := .call { callee := (.value (.func 19)), args := #[(.tmp 86)], argTypes := #[23] }) (ty := 45) (d := some 87) (g := none) (by kernel_rfl) (by kernel_rfl) (by kernel_rfl) (Does.call (f := 19) (args := [.pointer (some ⟨bR3, 0, none⟩)]) (by kernel_rfl) (fun W hI => (state_State_Records_calls k t51.2 bR3 AR53p0_0 cR53p0_0 CR53p0_0 HR53p0_0 AR53p0_1 cR53p0_1 CR53p0_1 HR53p0_1 AR53p0_2 cR53p0_2 CR53p0_2 HR53p0_2 t101 ht102 hI))) ?_
              rintro _ _ _ ⟨AR103, cR103, CR103, rfl, HR103, rfl, rfl⟩
              refine WL.restQ 2 [2, 7, 9, 10, 11, 12, 13] (L' := [(2, .slice Al2 l2.length cl2), (7, .pointer (some ⟨bR3, 0, none⟩)), (9, .slice AR36 t34.length cR36), (10, .slice AR40 t38.length cR40), (11, .slice AR44 t42.length cR44), (12, .int .i64 t51.1), (13, .slice AR103 t101.length cR103)]) (by kernel_rfl) ?_
              refine WP.seq ?_
              rw [Option.bind_eq_some_iff] at h
              obtain ⟨os105, h, hk106⟩ := h
              refine WP.cut (fun L' G' Γ' => ∃ s105 : Bool, s105 = os105 ∧ L' = [(2, .slice Al2 l2.length cl2), (7, .pointer (some ⟨bR3, 0, none⟩)), (10, .slice AR40 t38.length cR40), (11, .slice AR44 t42.length cR44), (13, .slice AR103 t101.length cR103), (119, .bool s105)] ∧ G = G' ∧ CR103 :: [(bR3, .cells #[.slice AR53p0_0 t51.2.f0.length cR53p0_0, .slice AR53p0_1 t51.2.f1.length cR53p0_1, mpv AR53p0_2] 63 (0, 0))] :: CR53p0_0 :: CR53p0_1 :: CR53p0_2 :: CR44 :: CR40 :: Γ = Γ') ?_ ?_
              · clear hk106
                refine WP.region ?_
                refine WL.pure 0 1 [2, 7, 9, 10, 11, 12, 13, 88] (L' := [(2, .slice Al2 l2.length cl2), (7, .pointer (some ⟨bR3, 0, none⟩)), (9, .slice AR36 t34.length cR36), (10, .slice AR40 t38.length cR40), (11, .slice AR44 t42.length cR44), (12, .int .i64 t51.1), (13, .slice AR103 t101.length cR103), (88, .pointer (some ⟨bR3, 0, none⟩))]) (by kernel_rfl) (by decide) ?_
                refine WL.front (i := 4) rfl ?_
                refine WL.front (i := 4) rfl ?_
                refine WL.front (i := 4) rfl ?_
                refine WL.front (i := 4) rfl ?_
                rw [Option.bind_eq_some_iff] at h
                obtain ⟨t107, ht108, h⟩ := h
                refine WL.op (op := .call { callee := (.value (.func 12)), args := #[(.tmp 88)], argTypes := #[23] }) (ty := 27) (d := some 89) (g := none) (by kernel_rfl) (by kernel_rfl) (by kernel_rfl) (Does.call (f := 12) (args := [.pointer (some ⟨bR3, 0, none⟩)]) (by kernel_rfl) (fun W hI => (state_State_W_calls t51.2 bR3 AR53p0_0 cR53p0_0 CR53p0_0 HR53p0_0 AR53p0_1 cR53p0_1 CR53p0_1 HR53p0_1 AR53p0_2 cR53p0_2 CR53p0_2 HR53p0_2 t107 ht108 hI))) ?_
                rintro _ _ _ ⟨AR109, cR109, CR109, rfl, HR109, rfl, rfl⟩
                refine WL.pure 2 4 [2, 7, 9, 10, 11, 12, 13, 89, 90, 91] (L' := [(2, .slice Al2 l2.length cl2), (7, .pointer (some ⟨bR3, 0, none⟩)), (9, .slice AR36 t34.length cR36), (10, .slice AR40 t38.length cR40), (11, .slice AR44 t42.length cR44), (12, .int .i64 t51.1), (13, .slice AR103 t101.length cR103), (89, .slice AR109 t107.length cR109), (90, .slice AR40 t38.length cR40), (91, .slice Al2 l2.length cl2)]) (by kernel_rfl) (by decide) ?_
                refine WL.op (op := .buildSlice 50 2 #[(0, (.tmp 90)), (1, (.tmp 91))]) (ty := 50) (d := some 92) (g := none) (by kernel_rfl) (by kernel_rfl) (by kernel_rfl) (Does.new (o := .cells #[.slice AR40 t38.length cR40, .slice Al2 l2.length cl2] 27 (0, 0)) (v := fun r => .slice (some ⟨r, 0, none⟩) 2 2) (fun r => by kernel_rfl)) ?_
                rintro _ _ _ ⟨b111, rfl, rfl, rfl⟩
                rw [Option.bind_eq_some_iff] at h
                obtain ⟨t114, ht115, h⟩ := h
                refine WL.op (op := .call { callee := (.value (.func 23)), args := #[(.tmp 92)], argTypes := #[50] }) (ty := 27) (d := some 93) (g := none) (by kernel_rfl) (by kernel_rfl) (by kernel_rfl) (Does.call (Φ := fun v' G' Γ' => ∃ (AR116 : Option Addr), ∃ (cR116 : Nat), ∃ (CR116 : Chunk), v' = .slice AR116 t114.length cR116 ∧ Ow (kInt .i64) G AR116 cR116 t114 CR116 ∧ G = G' ∧ CR116 :: [(b111, .cells #[.slice AR40 t38.length cR40, .slice Al2 l2.length cl2] 27 (0, 0))] :: CR109 :: [(bR3, .cells #[.slice AR53p0_0 t51.2.f0.length cR53p0_0, .slice AR53p0_1 t51.2.f1.length cR53p0_1, mpv AR53p0_2] 63 (0, 0))] :: CR53p0_0 :: CR53p0_1 :: CR53p0_2 :: CR103 :: CR44 :: CR40 :: CR36 :: Γ = Γ') (f := 23) (args := [.slice (some ⟨b111, 0, none⟩) ([t38, l2] : List (List Int)).length 2]) (by kernel_rfl) (fun W hI => (Calls.lendN (Φ := fun v' N => ∃ (AR116 : Option Addr), ∃ (cR116 : Nat), ∃ (CR116 : Chunk), v' = .slice AR116 t114.length cR116 ∧ Ow (kInt .i64) G AR116 cR116 t114 CR116 ∧ N = [CR116]) (H := []) (i := 8) rfl hI (fun _ e l118 nl118 hI => by subst e; exact Calls.lendN (Φ := fun v' N => ∃ (AR116 : Option Addr), ∃ (cR116 : Nat), ∃ (CR116 : Chunk), v' = .slice AR116 t114.length cR116 ∧ Ow (kInt .i64) G AR116 cR116 t114 CR116 ∧ N = [CR116]) (H := []) (i := 0) rfl hI (fun _ e l119 nl119 hI => by subst e; exact (((grapevineref3_Join_calls k ([t38, l2] : List (List Int)) (some ⟨b111, 0, none⟩) 2 ((Ow.lit (kd := (kSlice (kInt .i64))) (b := b111) (T := 27) (xs := ([t38, l2] : List (List Int))) (cs := [.slice AR40 t38.length cR40, .slice Al2 l2.length cl2]) (.cons (x := t38) (cs := [.slice AR40 t38.length cR40]) ⟨AR40, cR40, rfl, (HR40.rdN l118 nl118)⟩ (.cons (x := l2) (cs := [.slice Al2 l2.length cl2]) ⟨Al2, cl2, rfl, (Hl2.mono l118)⟩ .nil))).rdN l119 nl119) t114 ht115 hI)).mono fun _ _ hr => by obtain ⟨_, _, _, rfl, hd, hI⟩ := hr; obtain ⟨AR116, cR116, CR116, rfl, HR116, rfl, rfl⟩ := hd; exact ⟨_, _, _, rfl, ⟨[CR116], ⟨AR116, cR116, CR116, rfl, (HR116.flat (kInt_flat _)), rfl⟩, rfl, rfl⟩, hI⟩)))).mono fun _ _ hr => by obtain ⟨_, _, _, rfl, ⟨_, hd, rfl, rfl⟩, hI⟩ := hr; obtain ⟨AR116, cR116, CR116, rfl, HR116, rfl⟩ := hd; exact ⟨_, _, _, rfl, ⟨AR116, cR116, CR116, rfl, HR116, rfl, rfl⟩, hI⟩)) ?_
                rintro _ _ _ ⟨AR116, cR116, CR116, rfl, HR116, rfl, rfl⟩
                rw [Option.bind_eq_some_iff] at h
                obtain ⟨t120, ht121, h⟩ := h
                refine WL.op (op := .call { callee := (.value (.func 21)), args := #[(.tmp 89), (.tmp 93)], argTypes := #[27, 27] }) (ty := 4) (d := some 94) (g := none) (by kernel_rfl) (by kernel_rfl) (by kernel_rfl) (Does.call (Φ := fun v' G' Γ' => v' = .bool t120 ∧ G = G' ∧ CR116 :: [(b111, .cells #[.slice AR40 t38.length cR40, .slice Al2 l2.length cl2] 27 (0, 0))] :: CR109 :: [(bR3, .cells #[.slice AR53p0_0 t51.2.f0.length cR53p0_0, .slice AR53p0_1 t51.2.f1.length cR53p0_1, mpv AR53p0_2] 63 (0, 0))] :: CR53p0_0 :: CR53p0_1 :: CR53p0_2 :: CR103 :: CR44 :: CR40 :: CR36 :: Γ = Γ') (f := 21) (args := [.slice AR109 t107.length cR109, .slice AR116 t114.length cR116]) (by kernel_rfl) (fun W hI => (Calls.lendN (Φ := fun v' N => v' = .bool t120 ∧ N = []) (H := []) (i := 2) rfl hI (fun _ e l124 nl124 hI => by subst e; exact Calls.lendN (Φ := fun v' N => v' = .bool t120 ∧ N = []) (H := []) (i := 0) rfl hI (fun _ e l125 nl125 hI => by subst e; exact (((grapevinelaw0_SameInts_calls k t107 t114 AR109 cR109 ((HR109.rdN l124 nl124).mono l125) AR116 cR116 ((HR116.mono l124).rdN l125 nl125) t120 ht121 hI)).mono fun _ _ hr => by obtain ⟨_, _, _, rfl, hd, hI⟩ := hr; obtain ⟨rfl, rfl, rfl⟩ := hd; exact ⟨_, _, _, rfl, ⟨[], ⟨rfl, rfl⟩, rfl, rfl⟩, hI⟩)))).mono fun _ _ hr => by obtain ⟨_, _, _, rfl, ⟨_, hd, rfl, rfl⟩, hI⟩ := hr; obtain ⟨rfl, rfl⟩ := hd; exact ⟨_, _, _, rfl, ⟨rfl, rfl, rfl⟩, hI⟩)) ?_
                rintro _ _ _ ⟨rfl, rfl, rfl⟩
                refine WL.pure 7 9 [2, 7, 9, 10, 11, 12, 13, 96] (L' := [(2, .slice Al2 l2.length cl2), (7, .pointer (some ⟨bR3, 0, none⟩)), (9, .slice AR36 t34.length cR36), (10, .slice AR40 t38.length cR40), (11, .slice AR44 t42.length cR44), (12, .int .i64 t51.1), (13, .slice AR103 t101.length cR103), (96, .bool (!t120))]) (by kernel_rfl) (by decide) ?_
                refine WL.split 96 (b := (!t120)) (by kernel_rfl) (fun hc => ?_) (fun hc => ?_)
                · replace hc := hc
                  rw [if_pos hc] at h
                  have hc126 := hc
                  clear hc
                  refine WL.rest 9 [2, 7, 10, 11, 13, 119] (L' := [(2, .slice Al2 l2.length cl2), (7, .pointer (some ⟨bR3, 0, none⟩)), (10, .slice AR40 t38.length cR40), (11, .slice AR44 t42.length cR44), (13, .slice AR103 t101.length cR103), (119, .bool true)]) (by kernel_rfl) ?_
                  refine QP.dropAt 10 ?_
                  refine QP.dropAt 2 ?_
                  refine QP.dropAt 1 ?_
                  refine QP.dropAt 0 ?_
                  refine QP.front (i := 6) rfl ?_
                  refine QP.front (i := 6) rfl ?_
                  refine QP.front (i := 5) rfl ?_
                  refine QP.front (i := 5) rfl ?_
                  refine QP.front (i := 5) rfl ?_
                  refine QP.front (i := 5) rfl ?_
                  refine QP.front (i := 6) rfl ?_
                  refine QP.pick [2, 7, 10, 11, 13, 119] ?_
                  exact QP.meet ⟨_, Option.some.inj h, rfl, rfl, rfl⟩
                · replace hc := (Bool.eq_false_iff.1 hc)
                  rw [if_neg hc] at h
                  have hc126 := hc
                  clear hc
                  refine WL.pure 9 10 [2, 7, 9, 10, 11, 12, 13, 96, 97] (L' := [(2, .slice Al2 l2.length cl2), (7, .pointer (some ⟨bR3, 0, none⟩)), (9, .slice AR36 t34.length cR36), (10, .slice AR40 t38.length cR40), (11, .slice AR44 t42.length cR44), (12, .int .i64 t51.1), (13, .slice AR103 t101.length cR103), (96, .bool false), (97, .pointer (some ⟨bR3, 0, none⟩))]) (by kernel_rfl) (by decide) ?_
                  refine WL.front (i := 6) rfl ?_
                  refine WL.front (i := 6) rfl ?_
                  refine WL.front (i := 6) rfl ?_
                  refine WL.front (i := 6) rfl ?_
                  rw [Option.bind_eq_some_iff] at h
                  obtain ⟨t127, ht128, h⟩ := h
                  refine WL.op (op := .call { callee := (.value (.func 11)), args := #[(.tmp 97)], argTypes := #[23] }) (ty := 27) (d := some 98) (g := some (8, false)) (by kernel_rfl) (by kernel_rfl) (by kernel_rfl) (Does.call (f := 11) (args := [.pointer (some ⟨bR3, 0, none⟩)]) (by kernel_rfl) (fun W hI => (state_State_V_calls t51.2 bR3 AR53p0_0 cR53p0_0 CR53p0_0 HR53p0_0 AR53p0_1 cR53p0_1 CR53p0_1 HR53p0_1 AR53p0_2 cR53p0_2 CR53p0_2 HR53p0_2 t127 ht128 hI))) ?_
                  rintro _ _ _ ⟨AR129, cR129, CR129, rfl, HR129, rfl, rfl⟩
                  refine WL.pure 11 13 [2, 7, 10, 11, 12, 13, 96, 98, 99, 100] (L' := [(2, .slice Al2 l2.length cl2), (7, .pointer (some ⟨bR3, 0, none⟩)), (10, .slice AR40 t38.length cR40), (11, .slice AR44 t42.length cR44), (12, .int .i64 t51.1), (13, .slice AR103 t101.length cR103), (96, .bool false), (98, .slice AR129 t127.length cR129), (99, .slice AR36 t34.length cR36), (100, .slice Al2 l2.length cl2)]) (by kernel_rfl) (by decide) ?_
                  refine WL.op (op := .buildSlice 50 2 #[(0, (.tmp 99)), (1, (.tmp 100))]) (ty := 50) (d := some 101) (g := some (8, false)) (by kernel_rfl) (by kernel_rfl) (by kernel_rfl) (Does.new (o := .cells #[.slice AR36 t34.length cR36, .slice Al2 l2.length cl2] 27 (0, 0)) (v := fun r => .slice (some ⟨r, 0, none⟩) 2 2) (fun r => by kernel_rfl)) ?_
                  rintro _ _ _ ⟨b131, rfl, rfl, rfl⟩
                  rw [Option.bind_eq_some_iff] at h
                  obtain ⟨t134, ht135, h⟩ := h
                  refine WL.op (op := .call { callee := (.value (.func 23)), args := #[(.tmp 101)], argTypes := #[50] }) (ty := 27) (d := some 102) (g := some (8, false)) (by kernel_rfl) (by kernel_rfl) (by kernel_rfl) (Does.call (Φ := fun v' G' Γ' => ∃ (AR136 : Option Addr), ∃ (cR136 : Nat), ∃ (CR136 : Chunk), v' = .slice AR136 t134.length cR136 ∧ Ow (kInt .i64) G AR136 cR136 t134 CR136 ∧ G = G' ∧ CR136 :: [(b131, .cells #[.slice AR36 t34.length cR36, .slice Al2 l2.length cl2] 27 (0, 0))] :: CR129 :: [(bR3, .cells #[.slice AR53p0_0 t51.2.f0.length cR53p0_0, .slice AR53p0_1 t51.2.f1.length cR53p0_1, mpv AR53p0_2] 63 (0, 0))] :: CR53p0_0 :: CR53p0_1 :: CR53p0_2 :: CR116 :: [(b111, .cells #[.slice AR40 t38.length cR40, .slice Al2 l2.length cl2] 27 (0, 0))] :: CR109 :: CR103 :: CR44 :: CR40 :: CR36 :: Γ = Γ') (f := 23) (args := [.slice (some ⟨b131, 0, none⟩) ([t34, l2] : List (List Int)).length 2]) (by kernel_rfl) (fun W hI => (Calls.lendN (Φ := fun v' N => ∃ (AR136 : Option Addr), ∃ (cR136 : Nat), ∃ (CR136 : Chunk), v' = .slice AR136 t134.length cR136 ∧ Ow (kInt .i64) G AR136 cR136 t134 CR136 ∧ N = [CR136]) (H := []) (i := 12) rfl hI (fun _ e l138 nl138 hI => by subst e; exact Calls.lendN (Φ := fun v' N => ∃ (AR136 : Option Addr), ∃ (cR136 : Nat), ∃ (CR136 : Chunk), v' = .slice AR136 t134.length cR136 ∧ Ow (kInt .i64) G AR136 cR136 t134 CR136 ∧ N = [CR136]) (H := []) (i := 0) rfl hI (fun _ e l139 nl139 hI => by subst e; exact (((grapevineref3_Join_calls k ([t34, l2] : List (List Int)) (some ⟨b131, 0, none⟩) 2 ((Ow.lit (kd := (kSlice (kInt .i64))) (b := b131) (T := 27) (xs := ([t34, l2] : List (List Int))) (cs := [.slice AR36 t34.length cR36, .slice Al2 l2.length cl2]) (.cons (x := t34) (cs := [.slice AR36 t34.length cR36]) ⟨AR36, cR36, rfl, (HR36.rdN l138 nl138)⟩ (.cons (x := l2) (cs := [.slice Al2 l2.length cl2]) ⟨Al2, cl2, rfl, (Hl2.mono l138)⟩ .nil))).rdN l139 nl139) t134 ht135 hI)).mono fun _ _ hr => by obtain ⟨_, _, _, rfl, hd, hI⟩ := hr; obtain ⟨AR136, cR136, CR136, rfl, HR136, rfl, rfl⟩ := hd; exact ⟨_, _, _, rfl, ⟨[CR136], ⟨AR136, cR136, CR136, rfl, (HR136.flat (kInt_flat _)), rfl⟩, rfl, rfl⟩, hI⟩)))).mono fun _ _ hr => by obtain ⟨_, _, _, rfl, ⟨_, hd, rfl, rfl⟩, hI⟩ := hr; obtain ⟨AR136, cR136, CR136, rfl, HR136, rfl⟩ := hd; exact ⟨_, _, _, rfl, ⟨AR136, cR136, CR136, rfl, HR136, rfl, rfl⟩, hI⟩)) ?_
                  rintro _ _ _ ⟨AR136, cR136, CR136, rfl, HR136, rfl, rfl⟩
                  rw [Option.bind_eq_some_iff] at h
                  obtain ⟨t140, ht141, h⟩ := h
                  refine WL.op (op := .call { callee := (.value (.func 21)), args := #[(.tmp 98), (.tmp 102)], argTypes := #[27, 27] }) (ty := 4) (d := some 103) (g := some (8, false)) (by kernel_rfl) (by kernel_rfl) (by kernel_rfl) (Does.call (Φ := fun v' G' Γ' => v' = .bool t140 ∧ G = G' ∧ CR136 :: [(b131, .cells #[.slice AR36 t34.length cR36, .slice Al2 l2.length cl2] 27 (0, 0))] :: CR129 :: [(bR3, .cells #[.slice AR53p0_0 t51.2.f0.length cR53p0_0, .slice AR53p0_1 t51.2.f1.length cR53p0_1, mpv AR53p0_2] 63 (0, 0))] :: CR53p0_0 :: CR53p0_1 :: CR53p0_2 :: CR116 :: [(b111, .cells #[.slice AR40 t38.length cR40, .slice Al2 l2.length cl2] 27 (0, 0))] :: CR109 :: CR103 :: CR44 :: CR40 :: CR36 :: Γ = Γ') (f := 21) (args := [.slice AR129 t127.length cR129, .slice AR136 t134.length cR136]) (by kernel_rfl) (fun W hI => (Calls.lendN (Φ := fun v' N => v' = .bool t140 ∧ N = []) (H := []) (i := 2) rfl hI (fun _ e l144 nl144 hI => by subst e; exact Calls.lendN (Φ := fun v' N => v' = .bool t140 ∧ N = []) (H := []) (i := 0) rfl hI (fun _ e l145 nl145 hI => by subst e; exact (((grapevinelaw0_SameInts_calls k t127 t134 AR129 cR129 ((HR129.rdN l144 nl144).mono l145) AR136 cR136 ((HR136.mono l144).rdN l145 nl145) t140 ht141 hI)).mono fun _ _ hr => by obtain ⟨_, _, _, rfl, hd, hI⟩ := hr; obtain ⟨rfl, rfl, rfl⟩ := hd; exact ⟨_, _, _, rfl, ⟨[], ⟨rfl, rfl⟩, rfl, rfl⟩, hI⟩)))).mono fun _ _ hr => by obtain ⟨_, _, _, rfl, ⟨_, hd, rfl, rfl⟩, hI⟩ := hr; obtain ⟨rfl, rfl⟩ := hd; exact ⟨_, _, _, rfl, ⟨rfl, rfl, rfl⟩, hI⟩)) ?_
                  rintro _ _ _ ⟨rfl, rfl, rfl⟩
                  refine WL.pure 16 19 [2, 7, 10, 11, 12, 13, 106] (L' := [(2, .slice Al2 l2.length cl2), (7, .pointer (some ⟨bR3, 0, none⟩)), (10, .slice AR40 t38.length cR40), (11, .slice AR44 t42.length cR44), (12, .int .i64 t51.1), (13, .slice AR103 t101.length cR103), (106, .bool (!t140))]) (by kernel_rfl) (by decide) ?_
                  refine WL.split 106 (b := (!t140)) (by kernel_rfl) (fun hc => ?_) (fun hc => ?_)
                  · replace hc := hc
                    rw [if_pos hc] at h
                    have hc146 := hc
                    clear hc
                    refine WL.rest 19 [2, 7, 10, 11, 13, 119] (L' := [(2, .slice Al2 l2.length cl2), (7, .pointer (some ⟨bR3, 0, none⟩)), (10, .slice AR40 t38.length cR40), (11, .slice AR44 t42.length cR44), (13, .slice AR103 t101.length cR103), (119, .bool true)]) (by kernel_rfl) ?_
                    refine QP.dropAt 13 ?_
                    refine QP.dropAt 9 ?_
                    refine QP.dropAt 8 ?_
                    refine QP.dropAt 7 ?_
                    refine QP.dropAt 2 ?_
                    refine QP.dropAt 1 ?_
                    refine QP.dropAt 0 ?_
                    refine QP.front (i := 6) rfl ?_
                    refine QP.front (i := 6) rfl ?_
                    refine QP.front (i := 5) rfl ?_
                    refine QP.front (i := 5) rfl ?_
                    refine QP.front (i := 5) rfl ?_
                    refine QP.front (i := 5) rfl ?_
                    refine QP.front (i := 6) rfl ?_
                    refine QP.pick [2, 7, 10, 11, 13, 119] ?_
                    exact QP.meet ⟨_, Option.some.inj h, rfl, rfl, rfl⟩
                  · replace hc := (Bool.eq_false_iff.1 hc)
                    rw [if_neg hc] at h
                    have hc146 := hc
                    clear hc
                    refine WL.pure 19 28 [2, 7, 10, 11, 13, 115] (L' := [(2, .slice Al2 l2.length cl2), (7, .pointer (some ⟨bR3, 0, none⟩)), (10, .slice AR40 t38.length cR40), (11, .slice AR44 t42.length cR44), (13, .slice AR103 t101.length cR103), (115, .bool ((t101.length : Int) != (IntKind.i64.wrap ((t42.length : Int) - t51.1))))]) (by kernel_rfl) (by decide) ?_
                    refine WL.split 115 (b := ((t101.length : Int) != (IntKind.i64.wrap ((t42.length : Int) - t51.1)))) (by kernel_rfl) (fun hc => ?_) (fun hc => ?_)
                    · replace hc := (bne_iff_ne.1 hc)
                      rw [if_pos hc] at h
                      have hc147 := hc
                      clear hc
                      refine WL.rest 28 [2, 7, 10, 11, 13, 119] (L' := [(2, .slice Al2 l2.length cl2), (7, .pointer (some ⟨bR3, 0, none⟩)), (10, .slice AR40 t38.length cR40), (11, .slice AR44 t42.length cR44), (13, .slice AR103 t101.length cR103), (119, .bool true)]) (by kernel_rfl) ?_
                      refine QP.dropAt 13 ?_
                      refine QP.dropAt 9 ?_
                      refine QP.dropAt 8 ?_
                      refine QP.dropAt 7 ?_
                      refine QP.dropAt 2 ?_
                      refine QP.dropAt 1 ?_
                      refine QP.dropAt 0 ?_
                      refine QP.front (i := 6) rfl ?_
                      refine QP.front (i := 6) rfl ?_
                      refine QP.front (i := 5) rfl ?_
                      refine QP.front (i := 5) rfl ?_
                      refine QP.front (i := 5) rfl ?_
                      refine QP.front (i := 5) rfl ?_
                      refine QP.front (i := 6) rfl ?_
                      refine QP.pick [2, 7, 10, 11, 13, 119] ?_
                      exact QP.meet ⟨_, Option.some.inj h, rfl, rfl, rfl⟩
                    · replace hc := (not_not_intro (bne_eq_false_iff_eq.1 hc))
                      rw [if_neg hc] at h
                      have hc147 := hc
                      clear hc
                      refine WL.pure 28 29 [2, 7, 10, 11, 13, 115, 116] (L' := [(2, .slice Al2 l2.length cl2), (7, .pointer (some ⟨bR3, 0, none⟩)), (10, .slice AR40 t38.length cR40), (11, .slice AR44 t42.length cR44), (13, .slice AR103 t101.length cR103), (115, .bool false), (116, .pointer (some ⟨bR3, 0, none⟩))]) (by kernel_rfl) (by decide) ?_
                      refine WL.front (i := 6) rfl ?_
                      refine WL.front (i := 6) rfl ?_
                      refine WL.front (i := 6) rfl ?_
                      refine WL.front (i := 6) rfl ?_
                      rw [Option.bind_eq_some_iff] at h
                      obtain ⟨t148, ht149, h⟩ := h
                      refine WL.op (op := .call { callee := (.value (.func 17)), args := #[(.tmp 116)], argTypes := #[23] }) (ty := 4) (d := some 117) (g := some (27, false)) (by kernel_rfl) (by kernel_rfl) (by kernel_rfl) (Does.call (f := 17) (args := [.pointer (some ⟨bR3, 0, none⟩)]) (by kernel_rfl) (fun W hI => (grapevinelaw19_whole_calls k t51.2 bR3 AR53p0_0 cR53p0_0 CR53p0_0 HR53p0_0 AR53p0_1 cR53p0_1 CR53p0_1 HR53p0_1 AR53p0_2 cR53p0_2 CR53p0_2 HR53p0_2 t148 ht149 hI))) ?_
                      rintro _ _ _ ⟨rfl, rfl, rfl⟩
                      refine WL.rest 30 [2, 7, 10, 11, 13, 119] (L' := [(2, .slice Al2 l2.length cl2), (7, .pointer (some ⟨bR3, 0, none⟩)), (10, .slice AR40 t38.length cR40), (11, .slice AR44 t42.length cR44), (13, .slice AR103 t101.length cR103), (119, .bool (!t148))]) (by kernel_rfl) ?_
                      refine QP.dropAt 13 ?_
                      refine QP.dropAt 9 ?_
                      refine QP.dropAt 8 ?_
                      refine QP.dropAt 7 ?_
                      refine QP.dropAt 6 ?_
                      refine QP.dropAt 5 ?_
                      refine QP.dropAt 4 ?_
                      refine QP.front (i := 6) rfl ?_
                      refine QP.front (i := 6) rfl ?_
                      refine QP.front (i := 5) rfl ?_
                      refine QP.front (i := 5) rfl ?_
                      refine QP.front (i := 5) rfl ?_
                      refine QP.front (i := 5) rfl ?_
                      refine QP.front (i := 6) rfl ?_
                      refine QP.pick [2, 7, 10, 11, 13, 119] ?_
                      exact QP.meet ⟨_, Option.some.inj h, rfl, rfl, rfl⟩
              · rintro _ _ _ ⟨s105, rfl, rfl, rfl, rfl⟩
                clear h
                replace h := hk106
                refine WP.cond (b := s105) (by kernel_rfl) (fun hc => ?_) (fun hc => ?_)
                · replace hc := hc
                  rw [if_pos hc] at h
                  have hc152 := hc
                  clear hc
                  refine WP.seqP [6] (L' := [(6, .bool false)]) (by kernel_rfl) ?_
                  refine WP.dropAt 6 ?_
                  refine WP.dropAt 5 ?_
                  refine WP.dropAt 4 ?_
                  refine WP.dropAt 3 ?_
                  refine WP.dropAt 2 ?_
                  refine WP.dropAt 1 ?_
                  refine WP.dropAt 0 ?_
                  refine WP.ret ?_
                  refine QP.thenR ?_
                  obtain rfl := Option.some.inj h
                  exact QP.returned [6] [.bool false] _ (by kernel_rfl) (by kernel_rfl) (by kernel_rfl) (fun W hI => ⟨_, _, _, rfl, ⟨rfl, rfl, rfl⟩, hI⟩)
                · replace hc := (Bool.eq_false_iff.1 hc)
                  rw [if_neg hc] at h
                  have hc152 := hc
                  clear hc
                  refine WP.skip ?_
                  refine QP.next ?_
                  refine WP.pick [2, 7, 10, 11, 13] ?_
                  refine WP.seqR ?_
                  refine WL.pure 0 2 [7, 11, 13, 120, 121] (L' := [(7, .pointer (some ⟨bR3, 0, none⟩)), (11, .slice AR44 t42.length cR44), (13, .slice AR103 t101.length cR103), (120, .slice AR40 t38.length cR40), (121, .slice Al2 l2.length cl2)]) (by kernel_rfl) (by decide) ?_
                  refine WL.op (op := .buildSlice 50 2 #[(0, (.tmp 120)), (1, (.tmp 121))]) (ty := 50) (d := some 122) (g := none) (by kernel_rfl) (by kernel_rfl) (by kernel_rfl) (Does.new (o := .cells #[.slice AR40 t38.length cR40, .slice Al2 l2.length cl2] 27 (0, 0)) (v := fun r => .slice (some ⟨r, 0, none⟩) 2 2) (fun r => by kernel_rfl)) ?_
                  rintro _ _ _ ⟨b153, rfl, rfl, rfl⟩
                  rw [Option.bind_eq_some_iff] at h
                  obtain ⟨t156, ht157, h⟩ := h
                  refine WL.op (op := .call { callee := (.value (.func 23)), args := #[(.tmp 122)], argTypes := #[50] }) (ty := 27) (d := some 123) (g := none) (by kernel_rfl) (by kernel_rfl) (by kernel_rfl) (Does.call (Φ := fun v' G' Γ' => ∃ (AR158 : Option Addr), ∃ (cR158 : Nat), ∃ (CR158 : Chunk), v' = .slice AR158 t156.length cR158 ∧ Ow (kInt .i64) G AR158 cR158 t156 CR158 ∧ G = G' ∧ CR158 :: [(b153, .cells #[.slice AR40 t38.length cR40, .slice Al2 l2.length cl2] 27 (0, 0))] :: CR103 :: [(bR3, .cells #[.slice AR53p0_0 t51.2.f0.length cR53p0_0, .slice AR53p0_1 t51.2.f1.length cR53p0_1, mpv AR53p0_2] 63 (0, 0))] :: CR53p0_0 :: CR53p0_1 :: CR53p0_2 :: CR44 :: CR40 :: Γ = Γ') (f := 23) (args := [.slice (some ⟨b153, 0, none⟩) ([t38, l2] : List (List Int)).length 2]) (by kernel_rfl) (fun W hI => (Calls.lendN (Φ := fun v' N => ∃ (AR158 : Option Addr), ∃ (cR158 : Nat), ∃ (CR158 : Chunk), v' = .slice AR158 t156.length cR158 ∧ Ow (kInt .i64) G AR158 cR158 t156 CR158 ∧ N = [CR158]) (H := []) (i := 7) rfl hI (fun _ e l160 nl160 hI => by subst e; exact Calls.lendN (Φ := fun v' N => ∃ (AR158 : Option Addr), ∃ (cR158 : Nat), ∃ (CR158 : Chunk), v' = .slice AR158 t156.length cR158 ∧ Ow (kInt .i64) G AR158 cR158 t156 CR158 ∧ N = [CR158]) (H := []) (i := 0) rfl hI (fun _ e l161 nl161 hI => by subst e; exact (((grapevineref3_Join_calls k ([t38, l2] : List (List Int)) (some ⟨b153, 0, none⟩) 2 ((Ow.lit (kd := (kSlice (kInt .i64))) (b := b153) (T := 27) (xs := ([t38, l2] : List (List Int))) (cs := [.slice AR40 t38.length cR40, .slice Al2 l2.length cl2]) (.cons (x := t38) (cs := [.slice AR40 t38.length cR40]) ⟨AR40, cR40, rfl, (HR40.rdN l160 nl160)⟩ (.cons (x := l2) (cs := [.slice Al2 l2.length cl2]) ⟨Al2, cl2, rfl, (Hl2.mono l160)⟩ .nil))).rdN l161 nl161) t156 ht157 hI)).mono fun _ _ hr => by obtain ⟨_, _, _, rfl, hd, hI⟩ := hr; obtain ⟨AR158, cR158, CR158, rfl, HR158, rfl, rfl⟩ := hd; exact ⟨_, _, _, rfl, ⟨[CR158], ⟨AR158, cR158, CR158, rfl, (HR158.flat (kInt_flat _)), rfl⟩, rfl, rfl⟩, hI⟩)))).mono fun _ _ hr => by obtain ⟨_, _, _, rfl, ⟨_, hd, rfl, rfl⟩, hI⟩ := hr; obtain ⟨AR158, cR158, CR158, rfl, HR158, rfl⟩ := hd; exact ⟨_, _, _, rfl, ⟨AR158, cR158, CR158, rfl, HR158, rfl, rfl⟩, hI⟩)) ?_
                  rintro _ _ _ ⟨AR158, cR158, CR158, rfl, HR158, rfl, rfl⟩
                  refine WL.restQ 4 [7, 11, 13, 14, 15] (L' := [(7, .pointer (some ⟨bR3, 0, none⟩)), (11, .slice AR44 t42.length cR44), (13, .slice AR103 t101.length cR103), (14, .int .i64 0), (15, .slice AR158 t156.length cR158)]) (by kernel_rfl) ?_
                  refine WP.dropAt 8 ?_
                  refine WP.dropAt 1 ?_
                  refine WP.seq ?_
                  refine WP.seqP [7, 11, 13, 14, 15, 16] (L' := [(7, .pointer (some ⟨bR3, 0, none⟩)), (11, .slice AR44 t42.length cR44), (13, .slice AR103 t101.length cR103), (14, .int .i64 0), (15, .slice AR158 t156.length cR158), (16, .int .i64 0)]) (by kernel_rfl) ?_
                  rw [Option.bind_eq_some_iff] at h
                  obtain ⟨os162, h, hk163⟩ := h
                  refine WP.cutQ (fun L' G' Γ' => ∃ s162 : Unit, Sum.inr s162 = os162 ∧ L' = [(7, .pointer (some ⟨bR3, 0, none⟩)), (13, .slice AR103 t101.length cR103)] ∧ G = G' ∧ CR103 :: [(bR3, .cells #[.slice AR53p0_0 t51.2.f0.length cR53p0_0, .slice AR53p0_1 t51.2.f1.length cR53p0_1, mpv AR53p0_2] 63 (0, 0))] :: CR53p0_0 :: CR53p0_1 :: CR53p0_2 :: Γ = Γ') ?_ ?_
                  · skip
                    refine WP.block ?_
                    refine WP.pick [7, 11, 13, 14, 15, 16] ?_
                    refine WP.loopF (fun kn166 L' G' Γ' => ∃ (y164 : Int), ∃ (y165 : Int), grapevinelaw19_StateRaised_l1 t42 t101 t156 kn166 y164 y165 = some os162 ∧ L' = [(7, .pointer (some ⟨bR3, 0, none⟩)), (11, .slice AR44 t42.length cR44), (13, .slice AR103 t101.length cR103), (14, .int .i64 y164), (15, .slice AR158 t156.length cR158), (16, .int .i64 y165)] ∧ G = G' ∧ CR158 :: CR103 :: [(bR3, .cells #[.slice AR53p0_0 t51.2.f0.length cR53p0_0, .slice AR53p0_1 t51.2.f1.length cR53p0_1, mpv AR53p0_2] 63 (0, 0))] :: CR53p0_0 :: CR53p0_1 :: CR53p0_2 :: CR44 :: Γ = Γ') ?_ k ⟨0, 0, h, rfl, rfl, rfl⟩
                    clear h
                    rintro kn167 _ _ _ ⟨y164, y165, h, rfl, rfl, rfl⟩
                    cases kn167 with
                    | zero => exact absurd h (by simp [grapevinelaw19_StateRaised_l1])
                    | succ kn167 =>
                      simp only [grapevinelaw19_StateRaised_l1] at h
                      refine WP.seq ?_
                      refine WP.seqP [7, 11, 13, 14, 15, 16, 127] (L' := [(7, .pointer (some ⟨bR3, 0, none⟩)), (11, .slice AR44 t42.length cR44), (13, .slice AR103 t101.length cR103), (14, .int .i64 y164), (15, .slice AR158 t156.length cR158), (16, .int .i64 y165), (127, .bool (decide (y165 < (t42.length : Int))))]) (by kernel_rfl) ?_
                      refine WP.cond (b := decide (y165 < (t42.length : Int))) (by kernel_rfl) (fun hc => ?_) (fun hc => ?_)
                      · replace hc := of_decide_eq_true hc
                        rw [if_pos hc] at h
                        have hc168 := hc
                        clear hc
                        refine WP.skip ?_
                        refine QP.next ?_
                        refine WP.pick [7, 11, 13, 14, 15, 16] ?_
                        refine WP.seq ?_
                        refine WP.block ?_
                        refine WP.seq ?_
                        refine WP.any (N := 16) (S := [⟨some 130, [11], []⟩, ⟨some 131, [16], []⟩, ⟨some 132, [130, 131], [0, 1]⟩, ⟨some 133, [132], [2]⟩, ⟨some 134, [133], [3]⟩, ⟨some 135, [134], [4]⟩, ⟨some 136, [15], []⟩, ⟨some 137, [11], []⟩, ⟨some 138, [16], []⟩, ⟨some 139, [137, 138], [7, 8]⟩, ⟨some 140, [139], [9]⟩, ⟨some 141, [140], [10]⟩, ⟨some 142, [141], [11]⟩, ⟨some 143, [136, 142], [6, 12]⟩, ⟨some 144, [143], [13]⟩, ⟨some 145, [135, 144], [5, 14]⟩]) (kw := 16) (G0 := G) (Γ0 := CR158 :: CR103 :: [(bR3, .cells #[.slice AR53p0_0 t51.2.f0.length cR53p0_0, .slice AR53p0_1 t51.2.f1.length cR53p0_1, mpv AR53p0_2] 63 (0, 0))] :: CR53p0_0 :: CR53p0_1 :: CR53p0_2 :: CR44 :: Γ) mo (by kernel_rfl) (fun hS => ?_)
                        refine WA.pure [0, 1, 6, 7, 8] [7, 11, 13, 14, 15, 16, 130, 131, 136, 137, 138] (m := 11) (b' := 451) (L' := [(7, .pointer (some ⟨bR3, 0, none⟩)), (11, .slice AR44 t42.length cR44), (13, .slice AR103 t101.length cR103), (14, .int .i64 y164), (15, .slice AR158 t156.length cR158), (16, .int .i64 y165), (130, .slice AR44 t42.length cR44), (131, .int .i64 y165), (136, .slice AR158 t156.length cR158), (137, .slice AR44 t42.length cR44), (138, .int .i64 y165)]) (by kernel_rfl) (NoPanic.then (NoPanic.block (NoPanic.then (NoPanic.then (NoPanic.block (NoPanic.then (NoPanic.then (NoPanic.body)))))))) Under.refl hS (by kernel_rfl) ?_
                        by_cases hb169 : 0 ≤ y165 ∧ y165 < (t42.length : Int)
                        case neg => rw [if_neg hb169] at h; cases h
                        rw [if_pos hb169] at h
                        refine WA.tellD [] (i := 2) (m := 10) (b' := 455) (by kernel_rfl) (NoPanic.then (NoPanic.block (NoPanic.then (NoPanic.then (NoPanic.block (NoPanic.then (NoPanic.then (NoPanic.body)))))))) Under.refl hS (by kernel_rfl) (op := .indexAddr 45 (.tmp 130) (.tmp 131)) (ty := 0) (d := some 132) (g := none) (by kernel_rfl) (by kernel_rfl) (by kernel_rfl) (Tells.indexAddr (A := AR44) (n := t42.length) (c := cR44) (k := .i64) (j := y165) (by kernel_rfl) (by kernel_rfl) (HR44.isSome hb169.1 hb169.2) hb169.1 hb169.2 sl45) ?_
                        refine WA.tellD [] (i := 3) (m := 9) (b' := 463) (by kernel_rfl) (NoPanic.then (NoPanic.block (NoPanic.then (NoPanic.then (NoPanic.block (NoPanic.then (NoPanic.then (NoPanic.body)))))))) Under.refl hS (by kernel_rfl) (op := .fieldAddr 34 (.tmp 132) 0) (ty := 0) (d := some 133) (g := none) (by kernel_rfl) (by kernel_rfl) (by kernel_rfl) (Tells.fieldElem (m := y165.toNat * 5) (A := AR44) (by kernel_rfl) (HR44.isSome hb169.1 hb169.2) fi34_0) ?_
                        refine WA.tellD [] (i := 4) (m := 8) (b' := 479) (by kernel_rfl) (NoPanic.then (NoPanic.block (NoPanic.then (NoPanic.then (NoPanic.block (NoPanic.then (NoPanic.then (NoPanic.body)))))))) Under.refl hS (by kernel_rfl) (op := .fieldAddr 30 (.tmp 133) 1) (ty := 0) (d := some 134) (g := none) (by kernel_rfl) (by kernel_rfl) (by kernel_rfl) (Tells.fieldElem (m := y165.toNat * 5 + 0) (A := AR44) (by kernel_rfl) (HR44.isSome hb169.1 hb169.2) fi30_1) ?_
                        refine WA.tellDE [] (i := 5) (m := 7) (b' := 511) (by kernel_rfl) (NoPanic.then (NoPanic.block (NoPanic.then (NoPanic.then (NoPanic.block (NoPanic.then (NoPanic.then (NoPanic.body)))))))) Under.refl hS (by kernel_rfl) (op := .load 3 (.tmp 134)) (ty := 3) (d := some 135) (g := none) (by kernel_rfl) (by kernel_rfl) (by kernel_rfl) (HR44.loadF (i := 6) rfl (agg := false) (off := 1) hb169.1 hb169.2 z34 ag3 (fun _ => rfl) (by decide) (by kernel_rfl)) ?_
                        rintro _ rfl
                        by_cases hb170 : 0 ≤ y165 ∧ y165 < (t42.length : Int)
                        case neg => rw [if_neg hb170] at h; cases h
                        rw [if_pos hb170] at h
                        refine WA.tellD [] (i := 9) (m := 6) (b' := 1023) (by kernel_rfl) (NoPanic.then (NoPanic.block (NoPanic.then (NoPanic.then (NoPanic.block (NoPanic.then (NoPanic.then (NoPanic.body)))))))) Under.refl hS (by kernel_rfl) (op := .indexAddr 45 (.tmp 137) (.tmp 138)) (ty := 0) (d := some 139) (g := none) (by kernel_rfl) (by kernel_rfl) (by kernel_rfl) (Tells.indexAddr (A := AR44) (n := t42.length) (c := cR44) (k := .i64) (j := y165) (by kernel_rfl) (by kernel_rfl) (HR44.isSome hb170.1 hb170.2) hb170.1 hb170.2 sl45) ?_
                        refine WA.tellD [] (i := 10) (m := 5) (b' := 2047) (by kernel_rfl) (NoPanic.then (NoPanic.block (NoPanic.then (NoPanic.then (NoPanic.block (NoPanic.then (NoPanic.then (NoPanic.body)))))))) Under.refl hS (by kernel_rfl) (op := .fieldAddr 34 (.tmp 139) 0) (ty := 0) (d := some 140) (g := none) (by kernel_rfl) (by kernel_rfl) (by kernel_rfl) (Tells.fieldElem (m := y165.toNat * 5) (A := AR44) (by kernel_rfl) (HR44.isSome hb170.1 hb170.2) fi34_0) ?_
                        refine WA.tellD [] (i := 11) (m := 4) (b' := 4095) (by kernel_rfl) (NoPanic.then (NoPanic.block (NoPanic.then (NoPanic.then (NoPanic.block (NoPanic.then (NoPanic.then (NoPanic.body)))))))) Under.refl hS (by kernel_rfl) (op := .fieldAddr 30 (.tmp 140) 0) (ty := 0) (d := some 141) (g := none) (by kernel_rfl) (by kernel_rfl) (by kernel_rfl) (Tells.fieldElem (m := y165.toNat * 5 + 0) (A := AR44) (by kernel_rfl) (HR44.isSome hb170.1 hb170.2) fi30_0) ?_
                        refine WA.tellDE [] (i := 12) (m := 3) (b' := 8191) (by kernel_rfl) (NoPanic.then (NoPanic.block (NoPanic.then (NoPanic.then (NoPanic.block (NoPanic.then (NoPanic.then (NoPanic.body)))))))) Under.refl hS (by kernel_rfl) (op := .load 3 (.tmp 141)) (ty := 3) (d := some 142) (g := none) (by kernel_rfl) (by kernel_rfl) (by kernel_rfl) (HR44.loadF (i := 6) rfl (agg := false) (off := 0) hb170.1 hb170.2 z34 ag3 (fun _ => rfl) (by decide) (by kernel_rfl)) ?_
                        rintro _ rfl
                        by_cases hb171 : 0 ≤ ((t42.getD y165.toNat z34).f0) ∧ ((t42.getD y165.toNat z34).f0) < (t156.length : Int)
                        case neg => rw [if_neg hb171] at h; cases h
                        rw [if_pos hb171] at h
                        refine WA.tellD [] (i := 13) (m := 2) (b' := 16383) (by kernel_rfl) (NoPanic.then (NoPanic.block (NoPanic.then (NoPanic.then (NoPanic.block (NoPanic.then (NoPanic.then (NoPanic.body)))))))) Under.refl hS (by kernel_rfl) (op := .indexAddr 27 (.tmp 136) (.tmp 142)) (ty := 0) (d := some 143) (g := none) (by kernel_rfl) (by kernel_rfl) (by kernel_rfl) (Tells.indexAddr (A := AR158) (n := t156.length) (c := cR158) (k := .i64) (j := ((t42.getD y165.toNat z34).f0)) (by kernel_rfl) (by kernel_rfl) (HR158.isSome hb171.1 hb171.2) hb171.1 hb171.2 sl27) ?_
                        refine WA.tellDE [] (i := 14) (m := 1) (b' := 32767) (by kernel_rfl) (NoPanic.then (NoPanic.block (NoPanic.then (NoPanic.then (NoPanic.block (NoPanic.then (NoPanic.then (NoPanic.body)))))))) Under.refl hS (by kernel_rfl) (op := .load 3 (.tmp 143)) (ty := 3) (d := some 144) (g := none) (by kernel_rfl) (by kernel_rfl) (by kernel_rfl) (HR158.load (i := 0) rfl (agg := false) hb171.1 hb171.2 0 ag3 (fun _ => rfl) (by kernel_rfl)) ?_
                        rintro _ rfl
                        refine WA.pure [15] [7, 11, 13, 14, 15, 16, 145] (m := 0) (b' := 65535) (L' := [(7, .pointer (some ⟨bR3, 0, none⟩)), (11, .slice AR44 t42.length cR44), (13, .slice AR103 t101.length cR103), (14, .int .i64 y164), (15, .slice AR158 t156.length cR158), (16, .int .i64 y165), (145, .bool (decide (((t42.getD y165.toNat z34).f1) > (t156.getD ((t42.getD y165.toNat z34).f0).toNat 0))))]) (by kernel_rfl) (NoPanic.then (NoPanic.block (NoPanic.then (NoPanic.then (NoPanic.block (NoPanic.then (NoPanic.then (NoPanic.body)))))))) Under.refl hS (by kernel_rfl) ?_
                        refine WA.done hS (by kernel_rfl) ?_
                        refine QP.pick [7, 11, 13, 14, 15, 16, 145] ?_
                        refine QP.next ?_
                        refine WP.cond (b := decide (((t42.getD y165.toNat z34).f1) > (t156.getD ((t42.getD y165.toNat z34).f0).toNat 0))) (by kernel_rfl) (fun hc => ?_) (fun hc => ?_)
                        · replace hc := of_decide_eq_true hc
                          rw [if_pos hc] at h
                          have hc172 := hc
                          clear hc
                          refine WP.seq ?_
                          rw [Option.bind_eq_some_iff] at h
                          obtain ⟨os173, h, hk174⟩ := h
                          refine WP.cut (fun L' G' Γ' => ∃ s173 : Bool, s173 = os173 ∧ L' = [(7, .pointer (some ⟨bR3, 0, none⟩)), (11, .slice AR44 t42.length cR44), (13, .slice AR103 t101.length cR103), (14, .int .i64 y164), (15, .slice AR158 t156.length cR158), (16, .int .i64 y165), (160, .bool s173)] ∧ G = G' ∧ CR158 :: CR103 :: [(bR3, .cells #[.slice AR53p0_0 t51.2.f0.length cR53p0_0, .slice AR53p0_1 t51.2.f1.length cR53p0_1, mpv AR53p0_2] 63 (0, 0))] :: CR53p0_0 :: CR53p0_1 :: CR53p0_2 :: CR44 :: Γ = Γ') ?_ ?_
                          · clear hk174
                            skip
                            refine WP.any (N := 15) (S := [⟨some 146, [14], []⟩, ⟨some 147, [13], []⟩, ⟨some 148, [147], [1]⟩, ⟨some 149, [146, 148], [0, 2]⟩, ⟨some 150, [149], [3]⟩, ⟨some 151, [13, 150], [4]⟩, ⟨some 152, [14, 150], [4]⟩, ⟨some 153, [150, 151, 152], [4, 5, 6]⟩, ⟨some 154, [150, 153], [4, 7]⟩, ⟨some 155, [11, 150], [4]⟩, ⟨some 156, [16, 150], [4]⟩, ⟨some 157, [150, 155, 156], [4, 9, 10]⟩, ⟨some 158, [150, 157], [4, 11]⟩, ⟨some 159, [150, 154, 158], [4, 8, 12]⟩, ⟨some 160, [150, 159], [4, 13]⟩]) (kw := 15) (G0 := G) (Γ0 := CR158 :: CR103 :: [(bR3, .cells #[.slice AR53p0_0 t51.2.f0.length cR53p0_0, .slice AR53p0_1 t51.2.f1.length cR53p0_1, mpv AR53p0_2] 63 (0, 0))] :: CR53p0_0 :: CR53p0_1 :: CR53p0_2 :: CR44 :: Γ) mo (by kernel_rfl) (fun hS => ?_)
                            refine WA.pure [0, 1, 2, 3, 4] [7, 11, 13, 14, 15, 16, 150] (m := 10) (b' := 31) (L' := [(7, .pointer (some ⟨bR3, 0, none⟩)), (11, .slice AR44 t42.length cR44), (13, .slice AR103 t101.length cR103), (14, .int .i64 y164), (15, .slice AR158 t156.length cR158), (16, .int .i64 y165), (150, .bool (decide (y164 ≥ (t101.length : Int))))]) (by kernel_rfl) (NoPanic.then (NoPanic.then (NoPanic.block (NoPanic.then (NoPanic.then (NoPanic.block (NoPanic.then (NoPanic.then (NoPanic.body))))))))) Under.refl hS (by kernel_rfl) ?_
                            refine WA.split 150 (b := decide (y164 ≥ (t101.length : Int))) (by kernel_rfl) (fun hc => ?_) (fun hc => ?_)
                            · replace hc := of_decide_eq_true hc
                              rw [if_pos hc] at h
                              have hc175 := hc
                              clear hc
                              refine WA.pure [5, 6, 7, 8, 9, 10, 11, 12, 13, 14] [7, 11, 13, 14, 15, 16, 160] (m := 0) (b' := 32767) (L' := [(7, .pointer (some ⟨bR3, 0, none⟩)), (11, .slice AR44 t42.length cR44), (13, .slice AR103 t101.length cR103), (14, .int .i64 y164), (15, .slice AR158 t156.length cR158), (16, .int .i64 y165), (160, .bool true)]) (by kernel_rfl) (NoPanic.then (NoPanic.then (NoPanic.block (NoPanic.then (NoPanic.then (NoPanic.block (NoPanic.then (NoPanic.then (NoPanic.body))))))))) Under.refl hS (by kernel_rfl) ?_
                              refine WA.done hS (by kernel_rfl) ?_
                              refine QP.pick [7, 11, 13, 14, 15, 16, 160] ?_
                              refine QP.pick [7, 11, 13, 14, 15, 16, 160] ?_
                              exact QP.meet ⟨_, Option.some.inj h, rfl, rfl, rfl⟩
                            · replace hc := of_decide_eq_false hc
                              rw [if_neg hc] at h
                              have hc175 := hc
                              clear hc
                              refine WA.pure [5, 6, 9, 10] [7, 11, 13, 14, 15, 16, 150, 151, 152, 155, 156] (m := 6) (b' := 1663) (L' := [(7, .pointer (some ⟨bR3, 0, none⟩)), (11, .slice AR44 t42.length cR44), (13, .slice AR103 t101.length cR103), (14, .int .i64 y164), (15, .slice AR158 t156.length cR158), (16, .int .i64 y165), (150, .bool false), (151, .slice AR103 t101.length cR103), (152, .int .i64 y164), (155, .slice AR44 t42.length cR44), (156, .int .i64 y165)]) (by kernel_rfl) (NoPanic.then (NoPanic.then (NoPanic.block (NoPanic.then (NoPanic.then (NoPanic.block (NoPanic.then (NoPanic.then (NoPanic.body))))))))) Under.refl hS (by kernel_rfl) ?_
                              by_cases hb176 : 0 ≤ y164 ∧ y164 < (t101.length : Int)
                              case neg => rw [if_neg hb176] at h; cases h
                              rw [if_pos hb176] at h
                              refine WA.tellD [] (i := 7) (m := 5) (b' := 1791) (by kernel_rfl) (NoPanic.then (NoPanic.then (NoPanic.block (NoPanic.then (NoPanic.then (NoPanic.block (NoPanic.then (NoPanic.then (NoPanic.body))))))))) Under.refl hS (by kernel_rfl) (op := .indexAddr 45 (.tmp 151) (.tmp 152)) (ty := 0) (d := some 153) (g := some (4, false)) (by kernel_rfl) (by kernel_rfl) (by kernel_rfl) (Tells.indexAddr (A := AR103) (n := t101.length) (c := cR103) (k := .i64) (j := y164) (by kernel_rfl) (by kernel_rfl) (HR103.isSome hb176.1 hb176.2) hb176.1 hb176.2 sl45) ?_
                              refine WA.tellDE [] (i := 8) (m := 4) (b' := 2047) (by kernel_rfl) (NoPanic.then (NoPanic.then (NoPanic.block (NoPanic.then (NoPanic.then (NoPanic.block (NoPanic.then (NoPanic.then (NoPanic.body))))))))) Under.refl hS (by kernel_rfl) (op := .load 34 (.tmp 153)) (ty := 34) (d := some 154) (g := some (4, false)) (by kernel_rfl) (by kernel_rfl) (by kernel_rfl) (HR103.load (i := 1) rfl (agg := true) hb176.1 hb176.2 z34 ag34 (fun h => by cases h) (by kernel_rfl)) ?_
                              rintro _ rfl
                              by_cases hb177 : 0 ≤ y165 ∧ y165 < (t42.length : Int)
                              case neg => rw [if_neg hb177] at h; cases h
                              rw [if_pos hb177] at h
                              refine WA.tellD [] (i := 11) (m := 3) (b' := 4095) (by kernel_rfl) (NoPanic.then (NoPanic.then (NoPanic.block (NoPanic.then (NoPanic.then (NoPanic.block (NoPanic.then (NoPanic.then (NoPanic.body))))))))) Under.refl hS (by kernel_rfl) (op := .indexAddr 45 (.tmp 155) (.tmp 156)) (ty := 0) (d := some 157) (g := some (4, false)) (by kernel_rfl) (by kernel_rfl) (by kernel_rfl) (Tells.indexAddr (A := AR44) (n := t42.length) (c := cR44) (k := .i64) (j := y165) (by kernel_rfl) (by kernel_rfl) (HR44.isSome hb177.1 hb177.2) hb177.1 hb177.2 sl45) ?_
                              refine WA.tellDE [] (i := 12) (m := 2) (b' := 8191) (by kernel_rfl) (NoPanic.then (NoPanic.then (NoPanic.block (NoPanic.then (NoPanic.then (NoPanic.block (NoPanic.then (NoPanic.then (NoPanic.body))))))))) Under.refl hS (by kernel_rfl) (op := .load 34 (.tmp 157)) (ty := 34) (d := some 158) (g := some (4, false)) (by kernel_rfl) (by kernel_rfl) (by kernel_rfl) (HR44.load (i := 6) rfl (agg := true) hb177.1 hb177.2 z34 ag34 (fun h => by cases h) (by kernel_rfl)) ?_
                              rintro _ rfl
                              refine WA.tellD [] (i := 13) (m := 1) (b' := 16383) (by kernel_rfl) (NoPanic.then (NoPanic.then (NoPanic.block (NoPanic.then (NoPanic.then (NoPanic.block (NoPanic.then (NoPanic.then (NoPanic.body))))))))) Under.refl hS (by kernel_rfl) (op := .binOp .neq 34 (.tmp 154) (.tmp 158) 34) (ty := 4) (d := some 159) (g := some (4, false)) (by kernel_rfl) (by kernel_rfl) (by kernel_rfl) (Tells.neAgg (xs := #[.int .i64 ((t101.getD y164.toNat z34).f0), .int .i64 ((t101.getD y164.toNat z34).f1), .int .i64 ((t101.getD y164.toNat z34).f2), .int .i64 ((t101.getD y164.toNat z34).f3), .string ((t101.getD y164.toNat z34).f4)]) (ys := #[.int .i64 ((t42.getD y165.toNat z34).f0), .int .i64 ((t42.getD y165.toNat z34).f1), .int .i64 ((t42.getD y165.toNat z34).f2), .int .i64 ((t42.getD y165.toNat z34).f3), .string ((t42.getD y165.toNat z34).f4)]) (ls := [.int ((t101.getD y164.toNat z34).f0) ((t42.getD y165.toNat z34).f0), .int ((t101.getD y164.toNat z34).f1) ((t42.getD y165.toNat z34).f1), .int ((t101.getD y164.toNat z34).f2) ((t42.getD y165.toNat z34).f2), .int ((t101.getD y164.toNat z34).f3) ((t42.getD y165.toNat z34).f3), .str ((t101.getD y164.toNat z34).f4) ((t42.getD y165.toNat z34).f4)]) (by kernel_rfl) (by kernel_rfl) (by kernel_rfl) eg34) ?_
                              refine WA.reput 159 (v := .bool (!([.int ((t101.getD y164.toNat z34).f0) ((t42.getD y165.toNat z34).f0), .int ((t101.getD y164.toNat z34).f1) ((t42.getD y165.toNat z34).f1), .int ((t101.getD y164.toNat z34).f2) ((t42.getD y165.toNat z34).f2), .int ((t101.getD y164.toNat z34).f3) ((t42.getD y165.toNat z34).f3), .str ((t101.getD y164.toNat z34).f4) ((t42.getD y165.toNat z34).f4)].all Lf.ok))) (v' := .bool (!decide ((t101.getD y164.toNat z34) = (t42.getD y165.toNat z34)))) (by kernel_rfl) (by exact (congrArg (fun z => Value.bool (!z)) (eqT34 (t101.getD y164.toNat z34) (t42.getD y165.toNat z34)))) ?_
                              refine WA.pure [14] [7, 11, 13, 14, 15, 16, 160] (m := 0) (b' := 32767) (L' := [(7, .pointer (some ⟨bR3, 0, none⟩)), (11, .slice AR44 t42.length cR44), (13, .slice AR103 t101.length cR103), (14, .int .i64 y164), (15, .slice AR158 t156.length cR158), (16, .int .i64 y165), (160, .bool (!decide ((t101.getD y164.toNat z34) = (t42.getD y165.toNat z34))))]) (by kernel_rfl) (NoPanic.then (NoPanic.then (NoPanic.block (NoPanic.then (NoPanic.then (NoPanic.block (NoPanic.then (NoPanic.then (NoPanic.body))))))))) Under.refl hS (by kernel_rfl) ?_
                              refine WA.done hS (by kernel_rfl) ?_
                              refine QP.pick [7, 11, 13, 14, 15, 16, 160] ?_
                              refine QP.pick [7, 11, 13, 14, 15, 16, 160] ?_
                              exact QP.meet ⟨_, Option.some.inj h, rfl, rfl, rfl⟩
                          · rintro _ _ _ ⟨s173, rfl, rfl, rfl, rfl⟩
                            clear h
                            replace h := hk174
                            refine WP.cond (b := s173) (by kernel_rfl) (fun hc => ?_) (fun hc => ?_)
                            · replace hc := hc
                              rw [if_pos hc] at h
                              have hc178 := hc
                              clear hc
                              refine WP.seqP [6] (L' := [(6, .bool false)]) (by kernel_rfl) ?_
                              refine WP.dropAt 6 ?_
                              refine WP.dropAt 5 ?_
                              refine WP.dropAt 4 ?_
                              refine WP.dropAt 3 ?_
                              refine WP.dropAt 2 ?_
                              refine WP.dropAt 1 ?_
                              refine WP.dropAt 0 ?_
                              refine WP.ret ?_
                              refine QP.thenR ?_
                              refine QP.blockR ?_
                              refine QP.thenR ?_
                              refine QP.thenR ?_
                              refine QP.blockR ?_
                              refine QP.thenR ?_
                              refine QP.thenR ?_
                              obtain rfl := Option.some.inj h
                              obtain rfl := Option.some.inj (show some _ = some _ from hk163)
                              exact QP.returned [6] [.bool false] _ (by kernel_rfl) (by kernel_rfl) (by kernel_rfl) (fun W hI => ⟨_, _, _, rfl, ⟨rfl, rfl, rfl⟩, hI⟩)
                            · replace hc := (Bool.eq_false_iff.1 hc)
                              rw [if_neg hc] at h
                              have hc178 := hc
                              clear hc
                              refine WP.skip ?_
                              refine QP.next ?_
                              refine WP.pick [7, 11, 13, 14, 15, 16] ?_
                              refine WP.regionP [7, 11, 13, 14, 15, 16] (L' := [(7, .pointer (some ⟨bR3, 0, none⟩)), (11, .slice AR44 t42.length cR44), (13, .slice AR103 t101.length cR103), (14, .int .i64 (IntKind.i64.wrap (y164 + 1))), (15, .slice AR158 t156.length cR158), (16, .int .i64 y165)]) (by kernel_rfl) ?_
                              refine QP.blockN ?_
                              refine QP.next ?_
                              refine WP.pick [7, 11, 13, 14, 15, 16] ?_
                              refine WP.regionP [7, 11, 13, 14, 15, 16] (L' := [(7, .pointer (some ⟨bR3, 0, none⟩)), (11, .slice AR44 t42.length cR44), (13, .slice AR103 t101.length cR103), (14, .int .i64 (IntKind.i64.wrap (y164 + 1))), (15, .slice AR158 t156.length cR158), (16, .int .i64 (IntKind.i64.wrap (y165 + 1)))]) (by kernel_rfl) ?_
                              refine QP.front (i := 6) rfl ?_
                              refine QP.front (i := 6) rfl ?_
                              refine QP.front (i := 6) rfl ?_
                              refine QP.front (i := 6) rfl ?_
                              refine QP.front (i := 6) rfl ?_
                              refine QP.front (i := 6) rfl ?_
                              refine QP.front (i := 6) rfl ?_
                              refine QP.pick [7, 11, 13, 14, 15, 16] ?_
                              exact QP.meet ⟨kn167, Nat.lt_succ_self _, (IntKind.i64.wrap (y164 + 1)), (IntKind.i64.wrap (y165 + 1)), h, rfl, rfl, rfl⟩
                        · replace hc := of_decide_eq_false hc
                          rw [if_neg hc] at h
                          have hc172 := hc
                          clear hc
                          refine WP.skip ?_
                          refine QP.blockN ?_
                          refine QP.next ?_
                          refine WP.pick [7, 11, 13, 14, 15, 16] ?_
                          refine WP.regionP [7, 11, 13, 14, 15, 16] (L' := [(7, .pointer (some ⟨bR3, 0, none⟩)), (11, .slice AR44 t42.length cR44), (13, .slice AR103 t101.length cR103), (14, .int .i64 y164), (15, .slice AR158 t156.length cR158), (16, .int .i64 (IntKind.i64.wrap (y165 + 1)))]) (by kernel_rfl) ?_
                          refine QP.front (i := 6) rfl ?_
                          refine QP.front (i := 6) rfl ?_
                          refine QP.front (i := 6) rfl ?_
                          refine QP.front (i := 6) rfl ?_
                          refine QP.front (i := 6) rfl ?_
                          refine QP.front (i := 6) rfl ?_
                          refine QP.front (i := 6) rfl ?_
                          refine QP.pick [7, 11, 13, 14, 15, 16] ?_
                          exact QP.meet ⟨kn167, Nat.lt_succ_self _, y164, (IntKind.i64.wrap (y165 + 1)), h, rfl, rfl, rfl⟩
                      · replace hc := of_decide_eq_false hc
                        rw [if_neg hc] at h
                        have hc168 := hc
                        clear hc
                        refine WP.exit ?_
                        refine QP.thenE ?_
                        refine QP.thenE ?_
                        refine QP.blockE ?_
                        refine QP.dropAt 6 ?_
                        refine QP.dropAt 0 ?_
                        refine QP.pick [7, 13] ?_
                        exact QP.meet ⟨_, Option.some.inj h, rfl, rfl, rfl⟩
                  · rintro _ _ _ ⟨s162, rfl, rfl, rfl, rfl⟩
                    clear h
                    replace h := hk163
                    dsimp only at h
                    refine QP.next ?_
                    refine WP.pick [7, 13] ?_
                    rw [Option.bind_eq_some_iff] at h
                    obtain ⟨os179, h, hk180⟩ := h
                    refine WP.cut (fun L' G' Γ' => ∃ s179 : Bool × T63, s179 = os179 ∧ ∃ (As179_2_f0 : Option Addr), ∃ (cs179_2_f0 : Nat), ∃ (Cs179_2_f0 : Chunk), ∃ (As179_2_f1 : Option Addr), ∃ (cs179_2_f1 : Nat), ∃ (Cs179_2_f1 : Chunk), ∃ (As179_2_f2 : Option Addr), ∃ (cs179_2_f2 : Nat), ∃ (Cs179_2_f2 : Chunk), L' = [(6, .bool s179.1)] ∧ G = G' ∧ [(bR3, .cells #[.slice As179_2_f0 s179.2.f0.length cs179_2_f0, .slice As179_2_f1 s179.2.f1.length cs179_2_f1, mpv As179_2_f2] 63 (0, 0))] :: Cs179_2_f0 :: Cs179_2_f1 :: Cs179_2_f2 :: Γ = Γ' ∧ Ow (kInt .i64) G As179_2_f0 cs179_2_f0 s179.2.f0 Cs179_2_f0 ∧ Ow (kInt .i64) G As179_2_f1 cs179_2_f1 s179.2.f1 Cs179_2_f1 ∧ MpF m61 G As179_2_f2 cs179_2_f2 s179.2.f2 Cs179_2_f2) ?_ ?_
                    · clear hk180
                      refine WP.region ?_
                      refine WL.pure 0 2 [7, 13, 163, 164] (L' := [(7, .pointer (some ⟨bR3, 0, none⟩)), (13, .slice AR103 t101.length cR103), (163, .pointer (some ⟨bR3, 0, none⟩)), (164, .pointer (some ⟨bR3, 0, none⟩))]) (by kernel_rfl) (by decide) ?_
                      refine WL.front (i := 4) rfl ?_
                      refine WL.front (i := 4) rfl ?_
                      refine WL.front (i := 4) rfl ?_
                      refine WL.front (i := 4) rfl ?_
                      rw [Option.bind_eq_some_iff] at h
                      obtain ⟨t181, ht182, h⟩ := h
                      refine WL.op (op := .call { callee := (.value (.func 12)), args := #[(.tmp 164)], argTypes := #[23] }) (ty := 27) (d := some 165) (g := none) (by kernel_rfl) (by kernel_rfl) (by kernel_rfl) (Does.call (f := 12) (args := [.pointer (some ⟨bR3, 0, none⟩)]) (by kernel_rfl) (fun W hI => (state_State_W_calls t51.2 bR3 AR53p0_0 cR53p0_0 CR53p0_0 HR53p0_0 AR53p0_1 cR53p0_1 CR53p0_1 HR53p0_1 AR53p0_2 cR53p0_2 CR53p0_2 HR53p0_2 t181 ht182 hI))) ?_
                      rintro _ _ _ ⟨AR183, cR183, CR183, rfl, HR183, rfl, rfl⟩
                      refine WL.front (i := 4) rfl ?_
                      refine WL.front (i := 4) rfl ?_
                      refine WL.front (i := 4) rfl ?_
                      refine WL.front (i := 4) rfl ?_
                      rw [Option.bind_eq_some_iff] at h
                      obtain ⟨t185, ht186, h⟩ := h
                      refine WL.op (op := .call { callee := (.value (.func 15)), args := #[(.tmp 163), (.tmp 165)], argTypes := #[23, 27] }) (ty := 3) (d := some 166) (g := none) (by kernel_rfl) (by kernel_rfl) (by kernel_rfl) (Does.call (Φ := fun v' G' Γ' => ∃ (AR187p0_0 : Option Addr), ∃ (cR187p0_0 : Nat), ∃ (CR187p0_0 : Chunk), ∃ (AR187p0_1 : Option Addr), ∃ (cR187p0_1 : Nat), ∃ (CR187p0_1 : Chunk), ∃ (AR187p0_2 : Option Addr), ∃ (cR187p0_2 : Nat), ∃ (CR187p0_2 : Chunk), v' = .int .i64 t185.1 ∧ Ow (kInt .i64) G AR187p0_0 cR187p0_0 t185.2.f0 CR187p0_0 ∧ Ow (kInt .i64) G AR187p0_1 cR187p0_1 t185.2.f1 CR187p0_1 ∧ MpF m61 G AR187p0_2 cR187p0_2 t185.2.f2 CR187p0_2 ∧ G = G' ∧ [(bR3, .cells #[.slice AR187p0_0 t185.2.f0.length cR187p0_0, .slice AR187p0_1 t185.2.f1.length cR187p0_1, mpv AR187p0_2] 63 (0, 0))] :: CR187p0_0 :: CR187p0_1 :: CR187p0_2 :: CR183 :: CR103 :: Γ = Γ') (f := 15) (args := [.pointer (some ⟨bR3, 0, none⟩), .slice AR183 t181.length cR183]) (by kernel_rfl) (fun W hI => (Calls.lendN (Φ := fun v' N => ∃ (AR187p0_0 : Option Addr), ∃ (cR187p0_0 : Nat), ∃ (CR187p0_0 : Chunk), ∃ (AR187p0_1 : Option Addr), ∃ (cR187p0_1 : Nat), ∃ (CR187p0_1 : Chunk), ∃ (AR187p0_2 : Option Addr), ∃ (cR187p0_2 : Nat), ∃ (CR187p0_2 : Chunk), v' = .int .i64 t185.1 ∧ Ow (kInt .i64) G AR187p0_0 cR187p0_0 t185.2.f0 CR187p0_0 ∧ Ow (kInt .i64) G AR187p0_1 cR187p0_1 t185.2.f1 CR187p0_1 ∧ MpF m61 G AR187p0_2 cR187p0_2 t185.2.f2 CR187p0_2 ∧ N = [[(bR3, .cells #[.slice AR187p0_0 t185.2.f0.length cR187p0_0, .slice AR187p0_1 t185.2.f1.length cR187p0_1, mpv AR187p0_2] 63 (0, 0))], CR187p0_0, CR187p0_1, CR187p0_2]) (H := [[(bR3, .cells #[.slice AR53p0_0 t51.2.f0.length cR53p0_0, .slice AR53p0_1 t51.2.f1.length cR53p0_1, mpv AR53p0_2] 63 (0, 0))], CR53p0_0, CR53p0_1, CR53p0_2]) (i := 0) rfl hI (fun _ e l189 nl189 hI => by subst e; exact (((state_State_Raise_calls k t51.2 t181 bR3 AR53p0_0 cR53p0_0 CR53p0_0 (HR53p0_0.mono l189) AR53p0_1 cR53p0_1 CR53p0_1 (HR53p0_1.mono l189) AR53p0_2 cR53p0_2 CR53p0_2 (HR53p0_2.mono l189) AR183 cR183 (HR183.rdN l189 nl189) t185 ht186 hI)).mono fun _ _ hr => by obtain ⟨_, _, _, rfl, hd, hI⟩ := hr; obtain ⟨AR187p0_0, cR187p0_0, CR187p0_0, AR187p0_1, cR187p0_1, CR187p0_1, AR187p0_2, cR187p0_2, CR187p0_2, rfl, HR187p0_0, HR187p0_1, HR187p0_2, rfl, rfl⟩ := hd; exact ⟨_, _, _, rfl, ⟨[[(bR3, .cells #[.slice AR187p0_0 t185.2.f0.length cR187p0_0, .slice AR187p0_1 t185.2.f1.length cR187p0_1, mpv AR187p0_2] 63 (0, 0))], CR187p0_0, CR187p0_1, CR187p0_2], ⟨AR187p0_0, cR187p0_0, CR187p0_0, AR187p0_1, cR187p0_1, CR187p0_1, AR187p0_2, cR187p0_2, CR187p0_2, rfl, (HR187p0_0.flat (kInt_flat _)), (HR187p0_1.flat (kInt_flat _)), (HR187p0_2.flat ()), rfl⟩, rfl, rfl⟩, hI⟩))).mono fun _ _ hr => by obtain ⟨_, _, _, rfl, ⟨_, hd, rfl, rfl⟩, hI⟩ := hr; obtain ⟨AR187p0_0, cR187p0_0, CR187p0_0, AR187p0_1, cR187p0_1, CR187p0_1, AR187p0_2, cR187p0_2, CR187p0_2, rfl, HR187p0_0, HR187p0_1, HR187p0_2, rfl⟩ := hd; exact ⟨_, _, _, rfl, ⟨AR187p0_0, cR187p0_0, CR187p0_0, AR187p0_1, cR187p0_1, CR187p0_1, AR187p0_2, cR187p0_2, CR187p0_2, rfl, HR187p0_0, HR187p0_1, HR187p0_2, rfl, rfl⟩, hI⟩)) ?_
                      rintro _ _ _ ⟨AR187p0_0, cR187p0_0, CR187p0_0, AR187p0_1, cR187p0_1, CR187p0_1, AR187p0_2, cR187p0_2, CR187p0_2, rfl, HR187p0_0, HR187p0_1, HR187p0_2, rfl, rfl⟩
                      refine WL.pure 4 6 [7, 13, 168] (L' := [(7, .pointer (some ⟨bR3, 0, none⟩)), (13, .slice AR103 t101.length cR103), (168, .bool (t185.1 == 0))]) (by kernel_rfl) (by decide) ?_
                      refine WL.split 168 (b := (t185.1 == 0)) (by kernel_rfl) (fun hc => ?_) (fun hc => ?_)
                      · replace hc := eq_of_beq hc
                        rw [if_pos hc] at h
                        have hc190 := hc
                        clear hc
                        refine WL.pure 6 7 [13, 168, 169] (L' := [(13, .slice AR103 t101.length cR103), (168, .bool true), (169, .pointer (some ⟨bR3, 0, none⟩))]) (by kernel_rfl) (by decide) ?_
                        refine WL.front (i := 3) rfl ?_
                        refine WL.front (i := 3) rfl ?_
                        refine WL.front (i := 3) rfl ?_
                        refine WL.front (i := 3) rfl ?_
                        rw [Option.bind_eq_some_iff] at h
                        obtain ⟨t191, ht192, h⟩ := h
                        refine WL.op (op := .call { callee := (.value (.func 19)), args := #[(.tmp 169)], argTypes := #[23] }) (ty := 45) (d := some 170) (g := some (5, true)) (by kernel_rfl) (by kernel_rfl) (by kernel_rfl) (Does.call (f := 19) (args := [.pointer (some ⟨bR3, 0, none⟩)]) (by kernel_rfl) (fun W hI => (state_State_Records_calls k t185.2 bR3 AR187p0_0 cR187p0_0 CR187p0_0 HR187p0_0 AR187p0_1 cR187p0_1 CR187p0_1 HR187p0_1 AR187p0_2 cR187p0_2 CR187p0_2 HR187p0_2 t191 ht192 hI))) ?_
                        rintro _ _ _ ⟨AR193, cR193, CR193, rfl, HR193, rfl, rfl⟩
                        refine WL.pure 8 9 [168, 170, 171] (L' := [(168, .bool true), (170, .slice AR193 t191.length cR193), (171, .slice AR103 t101.length cR103)]) (by kernel_rfl) (by decide) ?_
                        rw [Option.bind_eq_some_iff] at h
                        obtain ⟨t195, ht196, h⟩ := h
                        refine WL.op (op := .call { callee := (.value (.func 22)), args := #[(.tmp 170), (.tmp 171)], argTypes := #[45, 45] }) (ty := 4) (d := some 172) (g := some (5, true)) (by kernel_rfl) (by kernel_rfl) (by kernel_rfl) (Does.call (Φ := fun v' G' Γ' => v' = .bool t195 ∧ G = G' ∧ CR193 :: [(bR3, .cells #[.slice AR187p0_0 t185.2.f0.length cR187p0_0, .slice AR187p0_1 t185.2.f1.length cR187p0_1, mpv AR187p0_2] 63 (0, 0))] :: CR187p0_0 :: CR187p0_1 :: CR187p0_2 :: CR183 :: CR103 :: Γ = Γ') (f := 22) (args := [.slice AR193 t191.length cR193, .slice AR103 t101.length cR103]) (by kernel_rfl) (fun W hI => (Calls.lendN (Φ := fun v' N => v' = .bool t195 ∧ N = []) (H := []) (i := 0) rfl hI (fun _ e l199 nl199 hI => by subst e; exact Calls.lendN (Φ := fun v' N => v' = .bool t195 ∧ N = []) (H := []) (i := 6) rfl hI (fun _ e l200 nl200 hI => by subst e; exact (((grapevinelaw0_SameRecords_calls k t191 t101 AR193 cR193 ((HR193.rdN l199 nl199).mono l200) AR103 cR103 ((HR103.mono l199).rdN l200 nl200) t195 ht196 hI)).mono fun _ _ hr => by obtain ⟨_, _, _, rfl, hd, hI⟩ := hr; obtain ⟨rfl, rfl, rfl⟩ := hd; exact ⟨_, _, _, rfl, ⟨[], ⟨rfl, rfl⟩, rfl, rfl⟩, hI⟩)))).mono fun _ _ hr => by obtain ⟨_, _, _, rfl, ⟨_, hd, rfl, rfl⟩, hI⟩ := hr; obtain ⟨rfl, rfl⟩ := hd; exact ⟨_, _, _, rfl, ⟨rfl, rfl, rfl⟩, hI⟩)) ?_
                        rintro _ _ _ ⟨rfl, rfl, rfl⟩
                        refine WL.pure 10 12 [174] (L' := [(174, .bool t195)]) (by kernel_rfl) (by decide) ?_
                        refine WL.split 174 (b := t195) (by kernel_rfl) (fun hc => ?_) (fun hc => ?_)
                        · replace hc := hc
                          rw [if_pos hc] at h
                          have hc201 := hc
                          clear hc
                          rw [Option.bind_eq_some_iff] at h
                          obtain ⟨t202, ht203, h⟩ := h
                          refine WL.op (op := .call { callee := (.value (.func 10)), args := #[], argTypes := #[] }) (ty := 4) (d := some 175) (g := some (11, true)) (by kernel_rfl) (by kernel_rfl) (by kernel_rfl) (Does.call (f := 10) (args := []) (by kernel_rfl) (fun W hI => (grapevinelaw19_awake_calls HT k   t202 ht203 hI))) ?_
                          rintro _ _ _ ⟨rfl, rfl, rfl⟩
                          refine WL.rest 13 [6] (L' := [(6, .bool t202)]) (by kernel_rfl) ?_
                          refine QP.dropAt 6 ?_
                          refine QP.dropAt 5 ?_
                          refine QP.dropAt 0 ?_
                          refine QP.pick [6] ?_
                          exact QP.meet ⟨_, Option.some.inj h, AR187p0_0, cR187p0_0, CR187p0_0, AR187p0_1, cR187p0_1, CR187p0_1, AR187p0_2, cR187p0_2, CR187p0_2, rfl, rfl, rfl, HR187p0_0, HR187p0_1, HR187p0_2⟩
                        · replace hc := (Bool.eq_false_iff.1 hc)
                          rw [if_neg hc] at h
                          have hc201 := hc
                          clear hc
                          refine WL.rest 12 [6] (L' := [(6, .bool false)]) (by kernel_rfl) ?_
                          refine QP.dropAt 6 ?_
                          refine QP.dropAt 5 ?_
                          refine QP.dropAt 0 ?_
                          refine QP.pick [6] ?_
                          exact QP.meet ⟨_, Option.some.inj h, AR187p0_0, cR187p0_0, CR187p0_0, AR187p0_1, cR187p0_1, CR187p0_1, AR187p0_2, cR187p0_2, CR187p0_2, rfl, rfl, rfl, HR187p0_0, HR187p0_1, HR187p0_2⟩
                      · replace hc := ne_of_beq_false hc
                        rw [if_neg hc] at h
                        have hc190 := hc
                        clear hc
                        refine WL.rest 6 [6] (L' := [(6, .bool false)]) (by kernel_rfl) ?_
                        refine QP.dropAt 5 ?_
                        refine QP.dropAt 4 ?_
                        refine QP.pick [6] ?_
                        exact QP.meet ⟨_, Option.some.inj h, AR187p0_0, cR187p0_0, CR187p0_0, AR187p0_1, cR187p0_1, CR187p0_1, AR187p0_2, cR187p0_2, CR187p0_2, rfl, rfl, rfl, HR187p0_0, HR187p0_1, HR187p0_2⟩
                    · rintro _ _ _ ⟨s179, rfl, As179_2_f0, cs179_2_f0, Cs179_2_f0, As179_2_f1, cs179_2_f1, Cs179_2_f1, As179_2_f2, cs179_2_f2, Cs179_2_f2, rfl, rfl, rfl, Hs179_2_f0, Hs179_2_f1, Hs179_2_f2⟩
                      clear h
                      replace h := hk180
                      refine WP.ret ?_
                      obtain rfl := Option.some.inj h
                      refine QP.dropAt 3 ?_
                      refine QP.dropAt 2 ?_
                      refine QP.dropAt 1 ?_
                      refine QP.dropAt 0 ?_
                      exact QP.returned [6] [.bool s179.1] _ (by kernel_rfl) (by kernel_rfl) (by kernel_rfl) (fun W hI => ⟨_, _, _, rfl, ⟨rfl, rfl, rfl⟩, hI⟩)
/-- The plain law. -/
def StateRaised_Pure : Prop := ∀ (a0 : Int) (l1 : List T36) (l2 : List Int), (Lit.int .i64 a0).wf = true → (l1.length ≤ maxLen ∧ ∀ z0 ∈ l1, ((Lit.int .i64 z0.f0).wf = true ∧ (Lit.int .i64 z0.f1).wf = true ∧ (Lit.int .i64 z0.f2).wf = true ∧ (Lit.int .i64 z0.f3).wf = true ∧ (Lit.int .i64 z0.f4).wf = true ∧ (Lit.int .i64 z0.f5).wf = true ∧ (Lit.int .i64 z0.f6).wf = true ∧ z0.f7.size ≤ maxLen ∧ (z0.f8.length ≤ maxLen ∧ ∀ zz0_f8 ∈ z0.f8, (Lit.int .i64 zz0_f8).wf = true))) → (l2.length ≤ maxLen ∧ ∀ z0 ∈ l2, (Lit.int .i64 z0).wf = true) → ∃ k, grapevinelaw19_StateRaised k a0 l1 l2 = some true
end Go.Proofs.YtjefgmglgphdbaaDoor.Gf
