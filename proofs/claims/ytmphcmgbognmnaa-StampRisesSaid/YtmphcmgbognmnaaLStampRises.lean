/- Walks of Go functions: what each tells, as a plain Lean function, and that the Go code comes to it. Written by gg.py of this repo. -/
import Derived.Test.YtmphcmgbognmnaaT
import Derived.Test.YtmphcmgbognmnaaF0
namespace Go.Proofs.Ytmphcmgbognmnaa.Gf
open Go Go.Gg
set_option maxRecDepth 100000
set_option linter.unusedVariables false
set_option linter.unusedSimpArgs false

/-! ### grapevine/grapevinelaw2.StampRises: function 5 -/
def grapevinelaw2_StampRises_l0 (l1 : List T39) : Nat → Int → T81 → T23 → Option (Sum Bool (T23 × T81))
  | 0, _, _, _ => none
  | k + 1, y18, y19, y20 => (if y18 < (l1.length : Int) then (if 0 ≤ y18 ∧ y18 < (l1.length : Int) then ((stamp_Clock_Last y19).bind fun t26 => (if (l1.getD y18.toNat z39).f0 = true then ((stamp_Clock_See k y19 (⟨(l1.getD y18.toNat z39).f1, (l1.getD y18.toNat z39).f2⟩ : T23) ((l1.getD y18.toNat z39).f3)).bind fun t32 => (if ¬ t32.1 = 0 then ((stamp_Clock_Last t32.2).bind fun t37 => (if ¬ t37 = t26 then some (Sum.inl false) else grapevinelaw2_StampRises_l0 l1 k (IntKind.i64.wrap (y18 + 1)) t32.2 y20)) else (((stamp_Clock_Last t32.2).bind fun t44 => ((stamp_Less (⟨(l1.getD y18.toNat z39).f1, (l1.getD y18.toNat z39).f2⟩ : T23) t44).bind fun t48 => (if (!t48) = true then some true else ((stamp_Clock_Last t32.2).bind fun t53 => ((stamp_Less t26 t53).bind fun t57 => (if (!t57) = true then some true else ((stamp_Clock_Last t32.2).bind fun t62 => some (decide (t62.f0 < ((l1.getD y18.toNat z39).f3)))))))))).bind fun s42 => (if s42 = true then some (Sum.inl false) else ((stamp_Clock_Last t32.2).bind fun t67 => grapevinelaw2_StampRises_l0 l1 k (IntKind.i64.wrap (y18 + 1)) t32.2 t67))))) else ((stamp_Clock_Tick y19 ((l1.getD y18.toNat z39).f3)).bind fun t71 => (if ¬ t71.2.1 = 0 then (((stamp_Clock_Last t71.2.2).bind fun t79 => (if ¬ t79 = t26 then some true else some (!decide (t71.1 = (⟨0, 0⟩ : T23))))).bind fun s77 => (if s77 = true then some (Sum.inl false) else grapevinelaw2_StampRises_l0 l1 k (IntKind.i64.wrap (y18 + 1)) t71.2.2 y20)) else (((stamp_Clock_Last t71.2.2).bind fun t87 => (if ¬ t71.1 = t87 then some true else ((stamp_Less y20 t71.1).bind fun t92 => (if (!t92) = true then some true else (if t71.1.f0 < ((l1.getD y18.toNat z39).f3) then some true else ((stamp_May t71.1).bind fun t98 => some (!t98))))))).bind fun s85 => (if s85 = true then some (Sum.inl false) else ((stamp_Clock_Last t71.2.2).bind fun t103 => grapevinelaw2_StampRises_l0 l1 k (IntKind.i64.wrap (y18 + 1)) t71.2.2 t103))))))) else none) else some (Sum.inr (y20, y19)))
def grapevinelaw2_StampRises (k : Nat) (a0 : T23) (l1 : List T39) : Option Bool := ((stamp_New a0).bind fun t2 => Option.elim t2 ((grapevinelaw2_awake k ).bind fun t6 => some t6) (fun x5 => (if (l1.length : Int) > 60 then ((grapevinelaw2_awake k ).bind fun t11 => some t11) else ((grapevinelaw2_StampRises_l0 l1 k 0 x5 a0).bind fun os16 => match os16 with | Sum.inl r => some r | Sum.inr s16 => ((grapevinelaw2_awake k ).bind fun t107 => some t107)))))
set_option maxHeartbeats 4000000 in
theorem grapevinelaw2_StampRises_calls {B : World} {G : GMap} {Γ : List Chunk} {W : World} (k : Nat) (a0 : T23) (l1 : List T39) (Al1 : Option Addr) (cl1 : Nat) (Hl1 : Rd k39 G Al1 cl1 l1) (r : Bool) (h : grapevinelaw2_StampRises k a0 l1 = some r) (hI : Inv B G (Γ) W) :
    Calls Try.prog 5 [.agg #[.int .i64 a0.f0, .int .i64 a0.f1], .slice Al1 l1.length cl1].toArray W (Ret B (fun v G' Γ' => v = .bool r ∧ G = G' ∧ Γ = Γ')) := by
  refine calls_WP (Γ := Γ) (G := G) (B := B) Try.func5 rfl (by kernel_rfl) ?_ hI
  clear hI
  unfold grapevinelaw2_StampRises at h
  refine WP.seqR ?_
  refine WL.op (op := .box 23 (.tmp 0)) (ty := 0) (d := some 2) (g := none) (by kernel_rfl) (by kernel_rfl) (by kernel_rfl) (Does.new (o := .cells #[.int .i64 a0.f0, .int .i64 a0.f1] 23 (0, 0)) (v := fun r => .pointer (some ⟨r, 0, none⟩)) (fun r => by kernel_rfl)) ?_
  rintro _ _ _ ⟨b1, rfl, rfl, rfl⟩
  refine WL.restQ 1 [1, 2] (L' := [(1, .slice Al1 l1.length cl1), (2, .pointer (some ⟨b1, 0, none⟩))]) (by kernel_rfl) ?_
  refine WP.seqR ?_
  refine WL.tell (op := .load 23 (.tmp 2)) (ty := 23) (d := some 12) (g := none) (by kernel_rfl) (by kernel_rfl) (by kernel_rfl) (Tells.load_box (i := 0) (b := b1) (o := 0) (agg := true) (by rfl) ag23 (by kernel_rfl) (fun h => by cases h) (Nat.le_of_ble_eq_true rfl) (v := .agg #[.int .i64 a0.f0, .int .i64 a0.f1]) (by kernel_rfl)) ?_
  rw [Option.bind_eq_some_iff] at h
  obtain ⟨t2, ht3, h⟩ := h
  refine WL.op (op := .call { callee := (.value (.func 24)), args := #[(.tmp 12)], argTypes := #[23] }) (ty := 30) (d := some 13) (g := none) (by kernel_rfl) (by kernel_rfl) (by kernel_rfl) (Does.call (f := 24) (args := [.agg #[.int .i64 a0.f0, .int .i64 a0.f1]]) (by kernel_rfl) (fun W hI => (stamp_New_calls a0  t2 ht3 hI))) ?_
  rintro _ _ _ (⟨hx, rfl, rfl, rfl⟩ | ⟨x5, hx, bR4, rfl, rfl, rfl⟩)
  · rw [hx] at h
    rw [Option.elim_none] at h
    clear hx
    refine WL.restQ 2 [1, 2, 5] (L' := [(1, .slice Al1 l1.length cl1), (2, .pointer (some ⟨b1, 0, none⟩)), (5, .pointer none)]) (by kernel_rfl) ?_
    refine WP.seq ?_
    refine WP.seqP [1, 2, 5, 20] (L' := [(1, .slice Al1 l1.length cl1), (2, .pointer (some ⟨b1, 0, none⟩)), (5, .pointer none), (20, .bool true)]) (by kernel_rfl) ?_
    refine WP.yes (by kernel_rfl) ?_
    refine WP.seqR ?_
    rw [Option.bind_eq_some_iff] at h
    obtain ⟨t6, ht7, h⟩ := h
    refine WL.op (op := .call { callee := (.value (.func 17)), args := #[], argTypes := #[] }) (ty := 4) (d := some 21) (g := none) (by kernel_rfl) (by kernel_rfl) (by kernel_rfl) (Does.call (f := 17) (args := []) (by kernel_rfl) (fun W hI => (grapevinelaw2_awake_calls k   t6 ht7 hI))) ?_
    rintro _ _ _ ⟨rfl, rfl, rfl⟩
    refine WL.restQ 1 [4] (L' := [(4, .bool t6)]) (by kernel_rfl) ?_
    refine WP.dropAt 0 ?_
    refine WP.ret ?_
    refine QP.thenR ?_
    obtain rfl := Option.some.inj h
    exact QP.returned [4] [.bool t6] _ (by kernel_rfl) (by kernel_rfl) (by kernel_rfl) (fun W hI => ⟨_, _, _, rfl, ⟨rfl, rfl, rfl⟩, hI⟩)
  · rw [hx] at h
    rw [Option.elim_some] at h
    clear hx
    refine WL.restQ 2 [1, 2, 5] (L' := [(1, .slice Al1 l1.length cl1), (2, .pointer (some ⟨b1, 0, none⟩)), (5, .pointer (some ⟨bR4, 0, none⟩))]) (by kernel_rfl) ?_
    refine WP.seq ?_
    refine WP.seqP [1, 2, 5, 20] (L' := [(1, .slice Al1 l1.length cl1), (2, .pointer (some ⟨b1, 0, none⟩)), (5, .pointer (some ⟨bR4, 0, none⟩)), (20, .bool (decide ((l1.length : Int) > 60)))]) (by kernel_rfl) ?_
    refine WP.cond (b := decide ((l1.length : Int) > 60)) (by kernel_rfl) (fun hc => ?_) (fun hc => ?_)
    · replace hc := of_decide_eq_true hc
      rw [if_pos hc] at h
      have hc10 := hc
      clear hc
      refine WP.seqR ?_
      rw [Option.bind_eq_some_iff] at h
      obtain ⟨t11, ht12, h⟩ := h
      refine WL.op (op := .call { callee := (.value (.func 17)), args := #[], argTypes := #[] }) (ty := 4) (d := some 21) (g := none) (by kernel_rfl) (by kernel_rfl) (by kernel_rfl) (Does.call (f := 17) (args := []) (by kernel_rfl) (fun W hI => (grapevinelaw2_awake_calls k   t11 ht12 hI))) ?_
      rintro _ _ _ ⟨rfl, rfl, rfl⟩
      refine WL.restQ 1 [4] (L' := [(4, .bool t11)]) (by kernel_rfl) ?_
      refine WP.dropAt 1 ?_
      refine WP.dropAt 0 ?_
      refine WP.ret ?_
      refine QP.thenR ?_
      obtain rfl := Option.some.inj h
      exact QP.returned [4] [.bool t11] _ (by kernel_rfl) (by kernel_rfl) (by kernel_rfl) (fun W hI => ⟨_, _, _, rfl, ⟨rfl, rfl, rfl⟩, hI⟩)
    · replace hc := of_decide_eq_false hc
      rw [if_neg hc] at h
      have hc10 := hc
      clear hc
      refine WP.skip ?_
      refine QP.next ?_
      refine WP.pick [1, 2, 5] ?_
      refine WP.seqR ?_
      refine WL.tell (op := .load 23 (.tmp 2)) (ty := 23) (d := some 22) (g := none) (by kernel_rfl) (by kernel_rfl) (by kernel_rfl) (Tells.load_box (i := 1) (b := b1) (o := 0) (agg := true) (by rfl) ag23 (by kernel_rfl) (fun h => by cases h) (Nat.le_of_ble_eq_true rfl) (v := .agg #[.int .i64 a0.f0, .int .i64 a0.f1]) (by kernel_rfl)) ?_
      refine WL.op (op := .alloc 23) (ty := 0) (d := some 6) (g := none) (by kernel_rfl) (by kernel_rfl) (by kernel_rfl) (Does.new (o := .cells #[.int .i64 0, .int .i64 0] 23 (0, 0)) (v := fun r => .pointer (some ⟨r, 0, none⟩)) (fun r => by kernel_rfl)) ?_
      rintro _ _ _ ⟨b15, rfl, rfl, rfl⟩
      refine WL.op (op := .store 23 (.tmp 6) (.tmp 22)) (ty := 0) (d := none) (g := none) (by kernel_rfl) (by kernel_rfl) (by kernel_rfl) (Does.store_box (i := 0) (b := b15) (o := 0) (v := .agg #[.int .i64 a0.f0, .int .i64 a0.f1]) (by rfl) sz23 (by kernel_rfl) (by kernel_rfl) (by kernel_rfl) (Free.zero _) (Nat.le_of_ble_eq_true rfl) (cells' := #[.int .i64 a0.f0, .int .i64 a0.f1]) (by kernel_rfl)) ?_
      rintro _ _ _ ⟨rfl, rfl, rfl⟩
      refine WL.restQ 3 [1, 5, 6] (L' := [(1, .slice Al1 l1.length cl1), (5, .pointer (some ⟨bR4, 0, none⟩)), (6, .pointer (some ⟨b15, 0, none⟩))]) (by kernel_rfl) ?_
      refine WP.dropAt 2 ?_
      refine WP.seq ?_
      refine WP.seqP [1, 5, 6, 7] (L' := [(1, .slice Al1 l1.length cl1), (5, .pointer (some ⟨bR4, 0, none⟩)), (6, .pointer (some ⟨b15, 0, none⟩)), (7, .int .i64 0)]) (by kernel_rfl) ?_
      rw [Option.bind_eq_some_iff] at h
      obtain ⟨os16, h, hk17⟩ := h
      refine WP.cutQ (fun L' G' Γ' => ∃ s16 : T23 × T81, Sum.inr s16 = os16 ∧ L' = [] ∧ G = G' ∧ [(b15, .cells #[.int .i64 s16.1.f0, .int .i64 s16.1.f1] 23 (0, 0))] :: [(bR4, .cells #[.int .i64 s16.2.f0, .int .i64 s16.2.f1] 81 (0, 0))] :: Γ = Γ') ?_ ?_
      · skip
        refine WP.block ?_
        refine WP.pick [1, 5, 6, 7] ?_
        refine WP.loopF (fun k21 L' G' Γ' => ∃ (y18 : Int), ∃ (y19 : T81), ∃ (y20 : T23), grapevinelaw2_StampRises_l0 l1 k21 y18 y19 y20 = some os16 ∧ L' = [(1, .slice Al1 l1.length cl1), (5, .pointer (some ⟨bR4, 0, none⟩)), (6, .pointer (some ⟨b15, 0, none⟩)), (7, .int .i64 y18)] ∧ G = G' ∧ [(b15, .cells #[.int .i64 y20.f0, .int .i64 y20.f1] 23 (0, 0))] :: [(bR4, .cells #[.int .i64 y19.f0, .int .i64 y19.f1] 81 (0, 0))] :: Γ = Γ') ?_ k ⟨0, x5, a0, h, rfl, rfl, rfl⟩
        clear h
        rintro k22 _ _ _ ⟨y18, y19, y20, h, rfl, rfl, rfl⟩
        cases k22 with
        | zero => exact absurd h (by simp [grapevinelaw2_StampRises_l0])
        | succ k22 =>
          simp only [grapevinelaw2_StampRises_l0] at h
          refine WP.seq ?_
          refine WP.seqP [1, 5, 6, 7, 26] (L' := [(1, .slice Al1 l1.length cl1), (5, .pointer (some ⟨bR4, 0, none⟩)), (6, .pointer (some ⟨b15, 0, none⟩)), (7, .int .i64 y18), (26, .bool (decide (y18 < (l1.length : Int))))]) (by kernel_rfl) ?_
          refine WP.cond (b := decide (y18 < (l1.length : Int))) (by kernel_rfl) (fun hc => ?_) (fun hc => ?_)
          · replace hc := of_decide_eq_true hc
            rw [if_pos hc] at h
            have hc23 := hc
            clear hc
            refine WP.skip ?_
            refine QP.next ?_
            refine WP.pick [1, 5, 6, 7] ?_
            refine WP.seq ?_
            refine WP.block ?_
            refine WP.seqR ?_
            refine WL.pure 0 2 [1, 5, 6, 7, 29, 30] (L' := [(1, .slice Al1 l1.length cl1), (5, .pointer (some ⟨bR4, 0, none⟩)), (6, .pointer (some ⟨b15, 0, none⟩)), (7, .int .i64 y18), (29, .slice Al1 l1.length cl1), (30, .int .i64 y18)]) (by kernel_rfl) (by decide) ?_
            by_cases hb24 : 0 ≤ y18 ∧ y18 < (l1.length : Int)
            case neg => rw [if_neg hb24] at h; cases h
            rw [if_pos hb24] at h
            refine WL.tell (op := .indexAddr 33 (.tmp 29) (.tmp 30)) (ty := 0) (d := some 31) (g := none) (by kernel_rfl) (by kernel_rfl) (by kernel_rfl) (Tells.indexAddr (A := Al1) (n := l1.length) (c := cl1) (k := .i64) (j := y18) (by kernel_rfl) (by kernel_rfl) (Hl1.isSome hb24.1 hb24.2) hb24.1 hb24.2 sl33) ?_
            refine WL.tellE (op := .load 39 (.tmp 31)) (ty := 39) (d := some 32) (g := none) (by kernel_rfl) (by kernel_rfl) (by kernel_rfl) (Hl1.load (agg := true) hb24.1 hb24.2 z39 ag39 (fun h => by cases h) (by kernel_rfl)) ?_
            rintro _ rfl
            refine WL.op (op := .alloc 39) (ty := 0) (d := some 8) (g := none) (by kernel_rfl) (by kernel_rfl) (by kernel_rfl) (Does.new (o := .cells #[.bool false, .int .i64 0, .int .i64 0, .int .i64 0] 39 (0, 0)) (v := fun r => .pointer (some ⟨r, 0, none⟩)) (fun r => by kernel_rfl)) ?_
            rintro _ _ _ ⟨b25, rfl, rfl, rfl⟩
            refine WL.op (op := .store 39 (.tmp 8) (.tmp 32)) (ty := 0) (d := none) (g := none) (by kernel_rfl) (by kernel_rfl) (by kernel_rfl) (Does.store_box (i := 0) (b := b25) (o := 0) (v := .agg #[.bool ((l1.getD y18.toNat z39).f0), .int .i64 ((l1.getD y18.toNat z39).f1), .int .i64 ((l1.getD y18.toNat z39).f2), .int .i64 ((l1.getD y18.toNat z39).f3)]) (by rfl) sz39 (by kernel_rfl) (by kernel_rfl) (by kernel_rfl) (Free.zero _) (Nat.le_of_ble_eq_true rfl) (cells' := #[.bool ((l1.getD y18.toNat z39).f0), .int .i64 ((l1.getD y18.toNat z39).f1), .int .i64 ((l1.getD y18.toNat z39).f2), .int .i64 ((l1.getD y18.toNat z39).f3)]) (by kernel_rfl)) ?_
            rintro _ _ _ ⟨rfl, rfl, rfl⟩
            refine WL.restQ 6 [1, 5, 6, 7, 8] (L' := [(1, .slice Al1 l1.length cl1), (5, .pointer (some ⟨bR4, 0, none⟩)), (6, .pointer (some ⟨b15, 0, none⟩)), (7, .int .i64 y18), (8, .pointer (some ⟨b25, 0, none⟩))]) (by kernel_rfl) ?_
            refine WP.seqR ?_
            refine WL.pure 0 1 [1, 5, 6, 7, 8, 33] (L' := [(1, .slice Al1 l1.length cl1), (5, .pointer (some ⟨bR4, 0, none⟩)), (6, .pointer (some ⟨b15, 0, none⟩)), (7, .int .i64 y18), (8, .pointer (some ⟨b25, 0, none⟩)), (33, .pointer (some ⟨bR4, 0, none⟩))]) (by kernel_rfl) (by decide) ?_
            refine WL.front (i := 2) rfl ?_
            rw [Option.bind_eq_some_iff] at h
            obtain ⟨t26, ht27, h⟩ := h
            refine WL.op (op := .call { callee := (.value (.func 25)), args := #[(.tmp 33)], argTypes := #[30] }) (ty := 23) (d := some 34) (g := none) (by kernel_rfl) (by kernel_rfl) (by kernel_rfl) (Does.call (f := 25) (args := [.pointer (some ⟨bR4, 0, none⟩)]) (by kernel_rfl) (fun W hI => (stamp_Clock_Last_calls y19 bR4 t26 ht27 hI))) ?_
            rintro _ _ _ ⟨rfl, rfl, rfl⟩
            refine WL.op (op := .alloc 23) (ty := 0) (d := some 9) (g := none) (by kernel_rfl) (by kernel_rfl) (by kernel_rfl) (Does.new (o := .cells #[.int .i64 0, .int .i64 0] 23 (0, 0)) (v := fun r => .pointer (some ⟨r, 0, none⟩)) (fun r => by kernel_rfl)) ?_
            rintro _ _ _ ⟨b30, rfl, rfl, rfl⟩
            refine WL.op (op := .store 23 (.tmp 9) (.tmp 34)) (ty := 0) (d := none) (g := none) (by kernel_rfl) (by kernel_rfl) (by kernel_rfl) (Does.store_box (i := 0) (b := b30) (o := 0) (v := .agg #[.int .i64 t26.f0, .int .i64 t26.f1]) (by rfl) sz23 (by kernel_rfl) (by kernel_rfl) (by kernel_rfl) (Free.zero _) (Nat.le_of_ble_eq_true rfl) (cells' := #[.int .i64 t26.f0, .int .i64 t26.f1]) (by kernel_rfl)) ?_
            rintro _ _ _ ⟨rfl, rfl, rfl⟩
            refine WL.restQ 4 [1, 5, 6, 7, 8, 9] (L' := [(1, .slice Al1 l1.length cl1), (5, .pointer (some ⟨bR4, 0, none⟩)), (6, .pointer (some ⟨b15, 0, none⟩)), (7, .int .i64 y18), (8, .pointer (some ⟨b25, 0, none⟩)), (9, .pointer (some ⟨b30, 0, none⟩))]) (by kernel_rfl) ?_
            refine WP.seq ?_
            refine WP.seqR ?_
            refine WL.pure 0 1 [1, 5, 6, 7, 8, 9, 35] (L' := [(1, .slice Al1 l1.length cl1), (5, .pointer (some ⟨bR4, 0, none⟩)), (6, .pointer (some ⟨b15, 0, none⟩)), (7, .int .i64 y18), (8, .pointer (some ⟨b25, 0, none⟩)), (9, .pointer (some ⟨b30, 0, none⟩)), (35, .pointer (some ⟨b25, 0, none⟩))]) (by kernel_rfl) (by decide) ?_
            refine WL.tell (op := .load 4 (.tmp 35)) (ty := 4) (d := some 36) (g := none) (by kernel_rfl) (by kernel_rfl) (by kernel_rfl) (Tells.load_box (i := 2) (b := b25) (o := 0) (agg := false) (by rfl) ag4 (by kernel_rfl) (fun _ => rfl) (Nat.le_of_ble_eq_true rfl) (v := .bool ((l1.getD y18.toNat z39).f0)) (by kernel_rfl)) ?_
            refine WL.restQ 2 [1, 5, 6, 7, 8, 9, 36] (L' := [(1, .slice Al1 l1.length cl1), (5, .pointer (some ⟨bR4, 0, none⟩)), (6, .pointer (some ⟨b15, 0, none⟩)), (7, .int .i64 y18), (8, .pointer (some ⟨b25, 0, none⟩)), (9, .pointer (some ⟨b30, 0, none⟩)), (36, .bool ((l1.getD y18.toNat z39).f0))]) (by kernel_rfl) ?_
            refine WP.cond (b := (l1.getD y18.toNat z39).f0) (by kernel_rfl) (fun hc => ?_) (fun hc => ?_)
            · replace hc := hc
              rw [if_pos hc] at h
              have hc31 := hc
              clear hc
              refine WP.seq ?_
              refine WP.seqR ?_
              refine WL.pure 0 2 [1, 5, 6, 7, 8, 9, 37, 38] (L' := [(1, .slice Al1 l1.length cl1), (5, .pointer (some ⟨bR4, 0, none⟩)), (6, .pointer (some ⟨b15, 0, none⟩)), (7, .int .i64 y18), (8, .pointer (some ⟨b25, 0, none⟩)), (9, .pointer (some ⟨b30, 0, none⟩)), (37, .pointer (some ⟨bR4, 0, none⟩)), (38, .pointer (some ⟨b25, 1, none⟩))]) (by kernel_rfl) (by decide) ?_
              refine WL.tell (op := .load 23 (.tmp 38)) (ty := 23) (d := some 39) (g := none) (by kernel_rfl) (by kernel_rfl) (by kernel_rfl) (Tells.load_box (i := 2) (b := b25) (o := 1) (agg := true) (by rfl) ag23 (by kernel_rfl) (fun h => by cases h) (Nat.le_of_ble_eq_true rfl) (v := .agg #[.int .i64 ((l1.getD y18.toNat z39).f1), .int .i64 ((l1.getD y18.toNat z39).f2)]) (by kernel_rfl)) ?_
              refine WL.pure 3 4 [1, 5, 6, 7, 8, 9, 37, 39, 40] (L' := [(1, .slice Al1 l1.length cl1), (5, .pointer (some ⟨bR4, 0, none⟩)), (6, .pointer (some ⟨b15, 0, none⟩)), (7, .int .i64 y18), (8, .pointer (some ⟨b25, 0, none⟩)), (9, .pointer (some ⟨b30, 0, none⟩)), (37, .pointer (some ⟨bR4, 0, none⟩)), (39, .agg #[.int .i64 ((l1.getD y18.toNat z39).f1), .int .i64 ((l1.getD y18.toNat z39).f2)]), (40, .pointer (some ⟨b25, 3, none⟩))]) (by kernel_rfl) (by decide) ?_
              refine WL.tell (op := .load 3 (.tmp 40)) (ty := 3) (d := some 41) (g := none) (by kernel_rfl) (by kernel_rfl) (by kernel_rfl) (Tells.load_box (i := 2) (b := b25) (o := 3) (agg := false) (by rfl) ag3 (by kernel_rfl) (fun _ => rfl) (Nat.le_of_ble_eq_true rfl) (v := .int .i64 ((l1.getD y18.toNat z39).f3)) (by kernel_rfl)) ?_
              refine WL.front (i := 1) rfl ?_
              rw [Option.bind_eq_some_iff] at h
              obtain ⟨t32, ht33, h⟩ := h
              refine WL.op (op := .call { callee := (.value (.func 27)), args := #[(.tmp 37), (.tmp 39), (.tmp 41)], argTypes := #[30, 23, 3] }) (ty := 41) (d := some 42) (g := none) (by kernel_rfl) (by kernel_rfl) (by kernel_rfl) (Does.call (f := 27) (args := [.pointer (some ⟨bR4, 0, none⟩), .agg #[.int .i64 ((l1.getD y18.toNat z39).f1), .int .i64 ((l1.getD y18.toNat z39).f2)], .int .i64 ((l1.getD y18.toNat z39).f3)]) (by kernel_rfl) (fun W hI => (stamp_Clock_See_calls k22 y19 (⟨(l1.getD y18.toNat z39).f1, (l1.getD y18.toNat z39).f2⟩ : T23) ((l1.getD y18.toNat z39).f3) bR4 t32 ht33 hI))) ?_
              rintro _ _ _ ⟨rfl, rfl, rfl⟩
              refine WL.restQ 6 [1, 5, 6, 7, 8, 9, 43] (L' := [(1, .slice Al1 l1.length cl1), (5, .pointer (some ⟨bR4, 0, none⟩)), (6, .pointer (some ⟨b15, 0, none⟩)), (7, .int .i64 y18), (8, .pointer (some ⟨b25, 0, none⟩)), (9, .pointer (some ⟨b30, 0, none⟩)), (43, .bool (t32.1 != 0))]) (by kernel_rfl) ?_
              refine WP.cond (b := (t32.1 != 0)) (by kernel_rfl) (fun hc => ?_) (fun hc => ?_)
              · replace hc := (bne_iff_ne.1 hc)
                rw [if_pos hc] at h
                have hc36 := hc
                clear hc
                refine WP.seq ?_
                refine WP.seq ?_
                refine WP.any (N := 4) (S := [⟨some 44, [5], []⟩, ⟨some 45, [44], [0]⟩, ⟨some 46, [9], []⟩, ⟨some 47, [45, 46], [1, 2]⟩]) (kw := 4) (G0 := G) (Γ0 := [(bR4, .cells #[.int .i64 t32.2.f0, .int .i64 t32.2.f1] 81 (0, 0))] :: [(b30, .cells #[.int .i64 t26.f0, .int .i64 t26.f1] 23 (0, 0))] :: [(b25, .cells #[.bool ((l1.getD y18.toNat z39).f0), .int .i64 ((l1.getD y18.toNat z39).f1), .int .i64 ((l1.getD y18.toNat z39).f2), .int .i64 ((l1.getD y18.toNat z39).f3)] 39 (0, 0))] :: [(b15, .cells #[.int .i64 y20.f0, .int .i64 y20.f1] 23 (0, 0))] :: Γ) mo (by kernel_rfl) (fun hS => ?_)
                refine WA.pure [0] [1, 5, 6, 7, 9, 44] (m := 3) (b' := 1) (L' := [(1, .slice Al1 l1.length cl1), (5, .pointer (some ⟨bR4, 0, none⟩)), (6, .pointer (some ⟨b15, 0, none⟩)), (7, .int .i64 y18), (9, .pointer (some ⟨b30, 0, none⟩)), (44, .pointer (some ⟨bR4, 0, none⟩))]) (by kernel_rfl) (NoPanic.then (NoPanic.then (NoPanic.then (NoPanic.then (NoPanic.block (NoPanic.then (NoPanic.then (NoPanic.block (NoPanic.then (NoPanic.then (NoPanic.body))))))))))) Under.refl hS (by kernel_rfl) ?_
                refine WA.tellD [] (i := 2) (m := 2) (b' := 5) (by kernel_rfl) (NoPanic.then (NoPanic.then (NoPanic.then (NoPanic.then (NoPanic.block (NoPanic.then (NoPanic.then (NoPanic.block (NoPanic.then (NoPanic.then (NoPanic.body))))))))))) Under.refl hS (by kernel_rfl) (op := .load 23 (.tmp 9)) (ty := 23) (d := some 46) (g := none) (by kernel_rfl) (by kernel_rfl) (by kernel_rfl) (Tells.load_box (i := 1) (b := b30) (o := 0) (agg := true) (by rfl) ag23 (by kernel_rfl) (fun h => by cases h) (Nat.le_of_ble_eq_true rfl) (v := .agg #[.int .i64 t26.f0, .int .i64 t26.f1]) (by kernel_rfl)) ?_
                rw [Option.bind_eq_some_iff] at h
                obtain ⟨t37, ht38, h⟩ := h
                refine WA.op (i := 1) (m := 1) (b' := 7) (by kernel_rfl) hS (by kernel_rfl) (op := .call { callee := (.value (.func 25)), args := #[(.tmp 44)], argTypes := #[30] }) (ty := 23) (d := some 45) (g := none) (by kernel_rfl) (by kernel_rfl) (by kernel_rfl) (Does.call (f := 25) (args := [.pointer (some ⟨bR4, 0, none⟩)]) (by kernel_rfl) (fun W hI => (stamp_Clock_Last_calls t32.2 bR4 t37 ht38 hI))) ?_
                rintro _ _ _ ⟨rfl, rfl, rfl⟩
                refine ⟨_, _, Under.refl, Under.refl, ?_⟩
                refine WA.tellD [] (i := 3) (m := 0) (b' := 15) (by kernel_rfl) (NoPanic.then (NoPanic.then (NoPanic.then (NoPanic.then (NoPanic.block (NoPanic.then (NoPanic.then (NoPanic.block (NoPanic.then (NoPanic.then (NoPanic.body))))))))))) Under.refl hS (by kernel_rfl) (op := .binOp .neq 23 (.tmp 45) (.tmp 46) 23) (ty := 4) (d := some 47) (g := none) (by kernel_rfl) (by kernel_rfl) (by kernel_rfl) (Tells.neAgg (xs := #[.int .i64 t37.f0, .int .i64 t37.f1]) (ys := #[.int .i64 t26.f0, .int .i64 t26.f1]) (ls := [.int t37.f0 t26.f0, .int t37.f1 t26.f1]) (by kernel_rfl) (by kernel_rfl) (by kernel_rfl) eg23) ?_
                refine WA.reput 47 (v := .bool (!([.int t37.f0 t26.f0, .int t37.f1 t26.f1].all Lf.ok))) (v' := .bool (!decide (t37 = t26))) (by kernel_rfl) (by exact (congrArg (fun z => Value.bool (!z)) (eqT23 t37 t26))) ?_
                refine WA.done hS (by kernel_rfl) ?_
                refine QP.pick [1, 5, 6, 7, 47] ?_
                refine QP.next ?_
                refine WP.dropAt 2 ?_
                refine WP.dropAt 1 ?_
                refine WP.cond (b := (!decide (t37 = t26))) (by kernel_rfl) (fun hc => ?_) (fun hc => ?_)
                · replace hc := (nd_true hc)
                  rw [if_pos hc] at h
                  have hc41 := hc
                  clear hc
                  refine WP.seqP [4] (L' := [(4, .bool false)]) (by kernel_rfl) ?_
                  refine WP.dropAt 1 ?_
                  refine WP.dropAt 0 ?_
                  refine WP.ret ?_
                  refine QP.thenR ?_
                  refine QP.thenR ?_
                  refine QP.thenR ?_
                  refine QP.blockR ?_
                  refine QP.thenR ?_
                  refine QP.thenR ?_
                  refine QP.blockR ?_
                  refine QP.thenR ?_
                  refine QP.thenR ?_
                  obtain rfl := Option.some.inj h
                  obtain rfl := Option.some.inj (show some _ = some _ from hk17)
                  exact QP.returned [4] [.bool false] _ (by kernel_rfl) (by kernel_rfl) (by kernel_rfl) (fun W hI => ⟨_, _, _, rfl, ⟨rfl, rfl, rfl⟩, hI⟩)
                · replace hc := (nd_false hc)
                  rw [if_neg hc] at h
                  have hc41 := hc
                  clear hc
                  refine WP.skip ?_
                  refine QP.next ?_
                  refine WP.pick [1, 5, 6, 7] ?_
                  refine WP.exit ?_
                  refine QP.thenE ?_
                  refine QP.thenE ?_
                  refine QP.blockE ?_
                  refine QP.next ?_
                  refine WP.pick [1, 5, 6, 7] ?_
                  refine WP.regionP [1, 5, 6, 7] (L' := [(1, .slice Al1 l1.length cl1), (5, .pointer (some ⟨bR4, 0, none⟩)), (6, .pointer (some ⟨b15, 0, none⟩)), (7, .int .i64 (IntKind.i64.wrap (y18 + 1)))]) (by kernel_rfl) ?_
                  refine QP.front (i := 1) rfl ?_
                  refine QP.pick [1, 5, 6, 7] ?_
                  exact QP.meet ⟨k22, Nat.lt_succ_self _, (IntKind.i64.wrap (y18 + 1)), t32.2, y20, h, rfl, rfl, rfl⟩
              · replace hc := (not_not_intro (bne_eq_false_iff_eq.1 hc))
                rw [if_neg hc] at h
                have hc36 := hc
                clear hc
                refine WP.skip ?_
                refine QP.next ?_
                refine WP.pick [1, 5, 6, 7, 8, 9] ?_
                rw [Option.bind_eq_some_iff] at h
                obtain ⟨os42, h, hk43⟩ := h
                refine WP.cut (fun L' G' Γ' => ∃ s42 : Bool, s42 = os42 ∧ L' = [(1, .slice Al1 l1.length cl1), (5, .pointer (some ⟨bR4, 0, none⟩)), (6, .pointer (some ⟨b15, 0, none⟩)), (7, .int .i64 y18), (68, .bool s42)] ∧ G = G' ∧ [(bR4, .cells #[.int .i64 t32.2.f0, .int .i64 t32.2.f1] 81 (0, 0))] :: [(b30, .cells #[.int .i64 t26.f0, .int .i64 t26.f1] 23 (0, 0))] :: [(b25, .cells #[.bool ((l1.getD y18.toNat z39).f0), .int .i64 ((l1.getD y18.toNat z39).f1), .int .i64 ((l1.getD y18.toNat z39).f2), .int .i64 ((l1.getD y18.toNat z39).f3)] 39 (0, 0))] :: [(b15, .cells #[.int .i64 y20.f0, .int .i64 y20.f1] 23 (0, 0))] :: Γ = Γ') ?_ ?_
                · clear hk43
                  skip
                  refine WP.any (N := 21) (S := [⟨some 48, [8], []⟩, ⟨some 49, [48], [0]⟩, ⟨some 50, [5], []⟩, ⟨some 51, [50], [2]⟩, ⟨some 52, [49, 51], [1, 3]⟩, ⟨some 53, [52], [4]⟩, ⟨some 54, [53], [4, 5]⟩, ⟨some 55, [9, 54], [6]⟩, ⟨some 56, [5, 54], [6]⟩, ⟨some 57, [54, 56], [6, 8]⟩, ⟨some 58, [54, 55, 57], [6, 7, 9]⟩, ⟨some 59, [54, 58], [6, 10]⟩, ⟨some 60, [54, 59], [6, 11]⟩, ⟨some 61, [60], [10, 12]⟩, ⟨some 62, [5, 61], [13]⟩, ⟨some 63, [61, 62], [13, 14]⟩, ⟨some 64, [61, 63], [13, 15]⟩, ⟨some 65, [8, 61], [13]⟩, ⟨some 66, [61, 65], [13, 17]⟩, ⟨some 67, [61, 64, 66], [13, 16, 18]⟩, ⟨some 68, [61, 67], [13, 19]⟩]) (kw := 21) (G0 := G) (Γ0 := [(bR4, .cells #[.int .i64 t32.2.f0, .int .i64 t32.2.f1] 81 (0, 0))] :: [(b30, .cells #[.int .i64 t26.f0, .int .i64 t26.f1] 23 (0, 0))] :: [(b25, .cells #[.bool ((l1.getD y18.toNat z39).f0), .int .i64 ((l1.getD y18.toNat z39).f1), .int .i64 ((l1.getD y18.toNat z39).f2), .int .i64 ((l1.getD y18.toNat z39).f3)] 39 (0, 0))] :: [(b15, .cells #[.int .i64 y20.f0, .int .i64 y20.f1] 23 (0, 0))] :: Γ) mo (by kernel_rfl) (fun hS => ?_)
                  refine WA.pure [0, 2] [1, 5, 6, 7, 8, 9, 48, 50] (m := 19) (b' := 5) (L' := [(1, .slice Al1 l1.length cl1), (5, .pointer (some ⟨bR4, 0, none⟩)), (6, .pointer (some ⟨b15, 0, none⟩)), (7, .int .i64 y18), (8, .pointer (some ⟨b25, 0, none⟩)), (9, .pointer (some ⟨b30, 0, none⟩)), (48, .pointer (some ⟨b25, 1, none⟩)), (50, .pointer (some ⟨bR4, 0, none⟩))]) (by kernel_rfl) (NoPanic.then (NoPanic.then (NoPanic.block (NoPanic.then (NoPanic.then (NoPanic.block (NoPanic.then (NoPanic.then (NoPanic.body))))))))) Under.refl hS (by kernel_rfl) ?_
                  refine WA.tellD [] (i := 1) (m := 18) (b' := 7) (by kernel_rfl) (NoPanic.then (NoPanic.then (NoPanic.block (NoPanic.then (NoPanic.then (NoPanic.block (NoPanic.then (NoPanic.then (NoPanic.body))))))))) Under.refl hS (by kernel_rfl) (op := .load 23 (.tmp 48)) (ty := 23) (d := some 49) (g := none) (by kernel_rfl) (by kernel_rfl) (by kernel_rfl) (Tells.load_box (i := 2) (b := b25) (o := 1) (agg := true) (by rfl) ag23 (by kernel_rfl) (fun h => by cases h) (Nat.le_of_ble_eq_true rfl) (v := .agg #[.int .i64 ((l1.getD y18.toNat z39).f1), .int .i64 ((l1.getD y18.toNat z39).f2)]) (by kernel_rfl)) ?_
                  rw [Option.bind_eq_some_iff] at h
                  obtain ⟨t44, ht45, h⟩ := h
                  refine WA.op (i := 3) (m := 17) (b' := 15) (by kernel_rfl) hS (by kernel_rfl) (op := .call { callee := (.value (.func 25)), args := #[(.tmp 50)], argTypes := #[30] }) (ty := 23) (d := some 51) (g := none) (by kernel_rfl) (by kernel_rfl) (by kernel_rfl) (Does.call (f := 25) (args := [.pointer (some ⟨bR4, 0, none⟩)]) (by kernel_rfl) (fun W hI => (stamp_Clock_Last_calls t32.2 bR4 t44 ht45 hI))) ?_
                  rintro _ _ _ ⟨rfl, rfl, rfl⟩
                  refine ⟨_, _, Under.refl, Under.refl, ?_⟩
                  rw [Option.bind_eq_some_iff] at h
                  obtain ⟨t48, ht49, h⟩ := h
                  refine WA.op (i := 4) (m := 16) (b' := 31) (by kernel_rfl) hS (by kernel_rfl) (op := .call { callee := (.value (.func 20)), args := #[(.tmp 49), (.tmp 51)], argTypes := #[23, 23] }) (ty := 4) (d := some 52) (g := none) (by kernel_rfl) (by kernel_rfl) (by kernel_rfl) (Does.call (f := 20) (args := [.agg #[.int .i64 ((l1.getD y18.toNat z39).f1), .int .i64 ((l1.getD y18.toNat z39).f2)], .agg #[.int .i64 t44.f0, .int .i64 t44.f1]]) (by kernel_rfl) (fun W hI => (stamp_Less_calls (⟨(l1.getD y18.toNat z39).f1, (l1.getD y18.toNat z39).f2⟩ : T23) t44  t48 ht49 hI))) ?_
                  rintro _ _ _ ⟨rfl, rfl, rfl⟩
                  refine ⟨_, _, Under.refl, Under.refl, ?_⟩
                  refine WA.pure [5, 6] [1, 5, 6, 7, 8, 9, 54] (m := 14) (b' := 127) (L' := [(1, .slice Al1 l1.length cl1), (5, .pointer (some ⟨bR4, 0, none⟩)), (6, .pointer (some ⟨b15, 0, none⟩)), (7, .int .i64 y18), (8, .pointer (some ⟨b25, 0, none⟩)), (9, .pointer (some ⟨b30, 0, none⟩)), (54, .bool (!t48))]) (by kernel_rfl) (NoPanic.then (NoPanic.then (NoPanic.block (NoPanic.then (NoPanic.then (NoPanic.block (NoPanic.then (NoPanic.then (NoPanic.body))))))))) Under.refl hS (by kernel_rfl) ?_
                  refine WA.split 54 (b := (!t48)) (by kernel_rfl) (fun hc => ?_) (fun hc => ?_)
                  · replace hc := hc
                    rw [if_pos hc] at h
                    have hc52 := hc
                    clear hc
                    refine WA.pure [7, 8, 9, 10, 11, 12, 13, 14, 15, 16, 17, 18, 19, 20] [1, 5, 6, 7, 68] (m := 0) (b' := 2097151) (L' := [(1, .slice Al1 l1.length cl1), (5, .pointer (some ⟨bR4, 0, none⟩)), (6, .pointer (some ⟨b15, 0, none⟩)), (7, .int .i64 y18), (68, .bool true)]) (by kernel_rfl) (NoPanic.then (NoPanic.then (NoPanic.block (NoPanic.then (NoPanic.then (NoPanic.block (NoPanic.then (NoPanic.then (NoPanic.body))))))))) Under.refl hS (by kernel_rfl) ?_
                    refine WA.done hS (by kernel_rfl) ?_
                    refine QP.pick [1, 5, 6, 7, 68] ?_
                    refine QP.pick [1, 5, 6, 7, 68] ?_
                    exact QP.meet ⟨_, Option.some.inj h, rfl, rfl, rfl⟩
                  · replace hc := (Bool.eq_false_iff.1 hc)
                    rw [if_neg hc] at h
                    have hc52 := hc
                    clear hc
                    refine WA.pure [8] [1, 5, 6, 7, 8, 9, 54, 56] (m := 13) (b' := 383) (L' := [(1, .slice Al1 l1.length cl1), (5, .pointer (some ⟨bR4, 0, none⟩)), (6, .pointer (some ⟨b15, 0, none⟩)), (7, .int .i64 y18), (8, .pointer (some ⟨b25, 0, none⟩)), (9, .pointer (some ⟨b30, 0, none⟩)), (54, .bool false), (56, .pointer (some ⟨bR4, 0, none⟩))]) (by kernel_rfl) (NoPanic.then (NoPanic.then (NoPanic.block (NoPanic.then (NoPanic.then (NoPanic.block (NoPanic.then (NoPanic.then (NoPanic.body))))))))) Under.refl hS (by kernel_rfl) ?_
                    refine WA.tellD [] (i := 7) (m := 12) (b' := 511) (by kernel_rfl) (NoPanic.then (NoPanic.then (NoPanic.block (NoPanic.then (NoPanic.then (NoPanic.block (NoPanic.then (NoPanic.then (NoPanic.body))))))))) Under.refl hS (by kernel_rfl) (op := .load 23 (.tmp 9)) (ty := 23) (d := some 55) (g := some (6, false)) (by kernel_rfl) (by kernel_rfl) (by kernel_rfl) (Tells.load_box (i := 1) (b := b30) (o := 0) (agg := true) (by rfl) ag23 (by kernel_rfl) (fun h => by cases h) (Nat.le_of_ble_eq_true rfl) (v := .agg #[.int .i64 t26.f0, .int .i64 t26.f1]) (by kernel_rfl)) ?_
                    rw [Option.bind_eq_some_iff] at h
                    obtain ⟨t53, ht54, h⟩ := h
                    refine WA.op (i := 9) (m := 11) (b' := 1023) (by kernel_rfl) hS (by kernel_rfl) (op := .call { callee := (.value (.func 25)), args := #[(.tmp 56)], argTypes := #[30] }) (ty := 23) (d := some 57) (g := some (6, false)) (by kernel_rfl) (by kernel_rfl) (by kernel_rfl) (Does.call (f := 25) (args := [.pointer (some ⟨bR4, 0, none⟩)]) (by kernel_rfl) (fun W hI => (stamp_Clock_Last_calls t32.2 bR4 t53 ht54 hI))) ?_
                    rintro _ _ _ ⟨rfl, rfl, rfl⟩
                    refine ⟨_, _, Under.refl, Under.refl, ?_⟩
                    rw [Option.bind_eq_some_iff] at h
                    obtain ⟨t57, ht58, h⟩ := h
                    refine WA.op (i := 10) (m := 10) (b' := 2047) (by kernel_rfl) hS (by kernel_rfl) (op := .call { callee := (.value (.func 20)), args := #[(.tmp 55), (.tmp 57)], argTypes := #[23, 23] }) (ty := 4) (d := some 58) (g := some (6, false)) (by kernel_rfl) (by kernel_rfl) (by kernel_rfl) (Does.call (f := 20) (args := [.agg #[.int .i64 t26.f0, .int .i64 t26.f1], .agg #[.int .i64 t53.f0, .int .i64 t53.f1]]) (by kernel_rfl) (fun W hI => (stamp_Less_calls t26 t53  t57 ht58 hI))) ?_
                    rintro _ _ _ ⟨rfl, rfl, rfl⟩
                    refine ⟨_, _, Under.refl, Under.refl, ?_⟩
                    refine WA.pure [11, 12, 13] [1, 5, 6, 7, 8, 61] (m := 7) (b' := 16383) (L' := [(1, .slice Al1 l1.length cl1), (5, .pointer (some ⟨bR4, 0, none⟩)), (6, .pointer (some ⟨b15, 0, none⟩)), (7, .int .i64 y18), (8, .pointer (some ⟨b25, 0, none⟩)), (61, .bool (!t57))]) (by kernel_rfl) (NoPanic.then (NoPanic.then (NoPanic.block (NoPanic.then (NoPanic.then (NoPanic.block (NoPanic.then (NoPanic.then (NoPanic.body))))))))) Under.refl hS (by kernel_rfl) ?_
                    refine WA.split 61 (b := (!t57)) (by kernel_rfl) (fun hc => ?_) (fun hc => ?_)
                    · replace hc := hc
                      rw [if_pos hc] at h
                      have hc61 := hc
                      clear hc
                      refine WA.pure [14, 15, 16, 17, 18, 19, 20] [1, 5, 6, 7, 68] (m := 0) (b' := 2097151) (L' := [(1, .slice Al1 l1.length cl1), (5, .pointer (some ⟨bR4, 0, none⟩)), (6, .pointer (some ⟨b15, 0, none⟩)), (7, .int .i64 y18), (68, .bool true)]) (by kernel_rfl) (NoPanic.then (NoPanic.then (NoPanic.block (NoPanic.then (NoPanic.then (NoPanic.block (NoPanic.then (NoPanic.then (NoPanic.body))))))))) Under.refl hS (by kernel_rfl) ?_
                      refine WA.done hS (by kernel_rfl) ?_
                      refine QP.pick [1, 5, 6, 7, 68] ?_
                      refine QP.pick [1, 5, 6, 7, 68] ?_
                      exact QP.meet ⟨_, Option.some.inj h, rfl, rfl, rfl⟩
                    · replace hc := (Bool.eq_false_iff.1 hc)
                      rw [if_neg hc] at h
                      have hc61 := hc
                      clear hc
                      refine WA.pure [14, 17] [1, 5, 6, 7, 61, 62, 65] (m := 5) (b' := 163839) (L' := [(1, .slice Al1 l1.length cl1), (5, .pointer (some ⟨bR4, 0, none⟩)), (6, .pointer (some ⟨b15, 0, none⟩)), (7, .int .i64 y18), (61, .bool false), (62, .pointer (some ⟨bR4, 0, none⟩)), (65, .pointer (some ⟨b25, 3, none⟩))]) (by kernel_rfl) (NoPanic.then (NoPanic.then (NoPanic.block (NoPanic.then (NoPanic.then (NoPanic.block (NoPanic.then (NoPanic.then (NoPanic.body))))))))) Under.refl hS (by kernel_rfl) ?_
                      refine WA.tellD [] (i := 18) (m := 4) (b' := 425983) (by kernel_rfl) (NoPanic.then (NoPanic.then (NoPanic.block (NoPanic.then (NoPanic.then (NoPanic.block (NoPanic.then (NoPanic.then (NoPanic.body))))))))) Under.refl hS (by kernel_rfl) (op := .load 3 (.tmp 65)) (ty := 3) (d := some 66) (g := some (13, false)) (by kernel_rfl) (by kernel_rfl) (by kernel_rfl) (Tells.load_box (i := 2) (b := b25) (o := 3) (agg := false) (by rfl) ag3 (by kernel_rfl) (fun _ => rfl) (Nat.le_of_ble_eq_true rfl) (v := .int .i64 ((l1.getD y18.toNat z39).f3)) (by kernel_rfl)) ?_
                      rw [Option.bind_eq_some_iff] at h
                      obtain ⟨t62, ht63, h⟩ := h
                      refine WA.op (i := 15) (m := 3) (b' := 458751) (by kernel_rfl) hS (by kernel_rfl) (op := .call { callee := (.value (.func 25)), args := #[(.tmp 62)], argTypes := #[30] }) (ty := 23) (d := some 63) (g := some (13, false)) (by kernel_rfl) (by kernel_rfl) (by kernel_rfl) (Does.call (f := 25) (args := [.pointer (some ⟨bR4, 0, none⟩)]) (by kernel_rfl) (fun W hI => (stamp_Clock_Last_calls t32.2 bR4 t62 ht63 hI))) ?_
                      rintro _ _ _ ⟨rfl, rfl, rfl⟩
                      refine ⟨_, _, Under.refl, Under.refl, ?_⟩
                      refine WA.pure [16, 19, 20] [1, 5, 6, 7, 68] (m := 0) (b' := 2097151) (L' := [(1, .slice Al1 l1.length cl1), (5, .pointer (some ⟨bR4, 0, none⟩)), (6, .pointer (some ⟨b15, 0, none⟩)), (7, .int .i64 y18), (68, .bool (decide (t62.f0 < ((l1.getD y18.toNat z39).f3))))]) (by kernel_rfl) (NoPanic.then (NoPanic.then (NoPanic.block (NoPanic.then (NoPanic.then (NoPanic.block (NoPanic.then (NoPanic.then (NoPanic.body))))))))) Under.refl hS (by kernel_rfl) ?_
                      refine WA.done hS (by kernel_rfl) ?_
                      refine QP.pick [1, 5, 6, 7, 68] ?_
                      refine QP.pick [1, 5, 6, 7, 68] ?_
                      exact QP.meet ⟨_, Option.some.inj h, rfl, rfl, rfl⟩
                · rintro _ _ _ ⟨s42, rfl, rfl, rfl, rfl⟩
                  clear h
                  replace h := hk43
                  refine WP.cond (b := s42) (by kernel_rfl) (fun hc => ?_) (fun hc => ?_)
                  · replace hc := hc
                    rw [if_pos hc] at h
                    have hc66 := hc
                    clear hc
                    refine WP.seqP [4] (L' := [(4, .bool false)]) (by kernel_rfl) ?_
                    refine WP.dropAt 3 ?_
                    refine WP.dropAt 2 ?_
                    refine WP.dropAt 1 ?_
                    refine WP.dropAt 0 ?_
                    refine WP.ret ?_
                    refine QP.thenR ?_
                    refine QP.blockR ?_
                    refine QP.thenR ?_
                    refine QP.thenR ?_
                    refine QP.blockR ?_
                    refine QP.thenR ?_
                    refine QP.thenR ?_
                    obtain rfl := Option.some.inj h
                    obtain rfl := Option.some.inj (show some _ = some _ from hk17)
                    exact QP.returned [4] [.bool false] _ (by kernel_rfl) (by kernel_rfl) (by kernel_rfl) (fun W hI => ⟨_, _, _, rfl, ⟨rfl, rfl, rfl⟩, hI⟩)
                  · replace hc := (Bool.eq_false_iff.1 hc)
                    rw [if_neg hc] at h
                    have hc66 := hc
                    clear hc
                    refine WP.skip ?_
                    refine QP.next ?_
                    refine WP.pick [1, 5, 6, 7] ?_
                    refine WP.region ?_
                    refine WL.pure 0 1 [1, 5, 6, 7, 109] (L' := [(1, .slice Al1 l1.length cl1), (5, .pointer (some ⟨bR4, 0, none⟩)), (6, .pointer (some ⟨b15, 0, none⟩)), (7, .int .i64 y18), (109, .pointer (some ⟨bR4, 0, none⟩))]) (by kernel_rfl) (by decide) ?_
                    rw [Option.bind_eq_some_iff] at h
                    obtain ⟨t67, ht68, h⟩ := h
                    refine WL.op (op := .call { callee := (.value (.func 25)), args := #[(.tmp 109)], argTypes := #[30] }) (ty := 23) (d := some 110) (g := none) (by kernel_rfl) (by kernel_rfl) (by kernel_rfl) (Does.call (f := 25) (args := [.pointer (some ⟨bR4, 0, none⟩)]) (by kernel_rfl) (fun W hI => (stamp_Clock_Last_calls t32.2 bR4 t67 ht68 hI))) ?_
                    rintro _ _ _ ⟨rfl, rfl, rfl⟩
                    refine WL.op (op := .store 23 (.tmp 6) (.tmp 110)) (ty := 0) (d := none) (g := none) (by kernel_rfl) (by kernel_rfl) (by kernel_rfl) (Does.store_box (i := 3) (b := b15) (o := 0) (v := .agg #[.int .i64 t67.f0, .int .i64 t67.f1]) (by rfl) sz23 (by kernel_rfl) (by kernel_rfl) (by kernel_rfl) (Free.zero _) (Nat.le_of_ble_eq_true rfl) (cells' := #[.int .i64 t67.f0, .int .i64 t67.f1]) (by kernel_rfl)) ?_
                    rintro _ _ _ ⟨rfl, rfl, rfl⟩
                    refine WL.rest 3 [1, 5, 6, 7] (L' := [(1, .slice Al1 l1.length cl1), (5, .pointer (some ⟨bR4, 0, none⟩)), (6, .pointer (some ⟨b15, 0, none⟩)), (7, .int .i64 y18)]) (by kernel_rfl) ?_
                    refine QP.blockN ?_
                    refine QP.next ?_
                    refine WP.pick [1, 5, 6, 7] ?_
                    refine WP.regionP [1, 5, 6, 7] (L' := [(1, .slice Al1 l1.length cl1), (5, .pointer (some ⟨bR4, 0, none⟩)), (6, .pointer (some ⟨b15, 0, none⟩)), (7, .int .i64 (IntKind.i64.wrap (y18 + 1)))]) (by kernel_rfl) ?_
                    refine QP.dropAt 2 ?_
                    refine QP.dropAt 1 ?_
                    refine QP.front (i := 1) rfl ?_
                    refine QP.pick [1, 5, 6, 7] ?_
                    exact QP.meet ⟨k22, Nat.lt_succ_self _, (IntKind.i64.wrap (y18 + 1)), t32.2, t67, h, rfl, rfl, rfl⟩
            · replace hc := (Bool.eq_false_iff.1 hc)
              rw [if_neg hc] at h
              have hc31 := hc
              clear hc
              refine WP.seqR ?_
              refine WL.pure 0 2 [1, 5, 6, 7, 8, 9, 70, 71] (L' := [(1, .slice Al1 l1.length cl1), (5, .pointer (some ⟨bR4, 0, none⟩)), (6, .pointer (some ⟨b15, 0, none⟩)), (7, .int .i64 y18), (8, .pointer (some ⟨b25, 0, none⟩)), (9, .pointer (some ⟨b30, 0, none⟩)), (70, .pointer (some ⟨bR4, 0, none⟩)), (71, .pointer (some ⟨b25, 3, none⟩))]) (by kernel_rfl) (by decide) ?_
              refine WL.tell (op := .load 3 (.tmp 71)) (ty := 3) (d := some 72) (g := none) (by kernel_rfl) (by kernel_rfl) (by kernel_rfl) (Tells.load_box (i := 2) (b := b25) (o := 3) (agg := false) (by rfl) ag3 (by kernel_rfl) (fun _ => rfl) (Nat.le_of_ble_eq_true rfl) (v := .int .i64 ((l1.getD y18.toNat z39).f3)) (by kernel_rfl)) ?_
              refine WL.front (i := 1) rfl ?_
              rw [Option.bind_eq_some_iff] at h
              obtain ⟨t71, ht72, h⟩ := h
              refine WL.op (op := .call { callee := (.value (.func 29)), args := #[(.tmp 70), (.tmp 72)], argTypes := #[30, 3] }) (ty := 44) (d := some 73) (g := none) (by kernel_rfl) (by kernel_rfl) (by kernel_rfl) (Does.call (f := 29) (args := [.pointer (some ⟨bR4, 0, none⟩), .int .i64 ((l1.getD y18.toNat z39).f3)]) (by kernel_rfl) (fun W hI => (stamp_Clock_Tick_calls y19 ((l1.getD y18.toNat z39).f3) bR4 t71 ht72 hI))) ?_
              rintro _ _ _ ⟨rfl, rfl, rfl⟩
              refine WL.pure 4 7 [1, 5, 6, 7, 8, 9, 74, 75] (L' := [(1, .slice Al1 l1.length cl1), (5, .pointer (some ⟨bR4, 0, none⟩)), (6, .pointer (some ⟨b15, 0, none⟩)), (7, .int .i64 y18), (8, .pointer (some ⟨b25, 0, none⟩)), (9, .pointer (some ⟨b30, 0, none⟩)), (74, .agg #[.int .i64 t71.1.f0, .int .i64 t71.1.f1]), (75, .int .i64 t71.2.1)]) (by kernel_rfl) (by decide) ?_
              refine WL.op (op := .alloc 23) (ty := 0) (d := some 10) (g := none) (by kernel_rfl) (by kernel_rfl) (by kernel_rfl) (Does.new (o := .cells #[.int .i64 0, .int .i64 0] 23 (0, 0)) (v := fun r => .pointer (some ⟨r, 0, none⟩)) (fun r => by kernel_rfl)) ?_
              rintro _ _ _ ⟨b75, rfl, rfl, rfl⟩
              refine WL.op (op := .store 23 (.tmp 10) (.tmp 74)) (ty := 0) (d := none) (g := none) (by kernel_rfl) (by kernel_rfl) (by kernel_rfl) (Does.store_box (i := 0) (b := b75) (o := 0) (v := .agg #[.int .i64 t71.1.f0, .int .i64 t71.1.f1]) (by rfl) sz23 (by kernel_rfl) (by kernel_rfl) (by kernel_rfl) (Free.zero _) (Nat.le_of_ble_eq_true rfl) (cells' := #[.int .i64 t71.1.f0, .int .i64 t71.1.f1]) (by kernel_rfl)) ?_
              rintro _ _ _ ⟨rfl, rfl, rfl⟩
              refine WL.restQ 9 [1, 5, 6, 7, 8, 9, 10, 11] (L' := [(1, .slice Al1 l1.length cl1), (5, .pointer (some ⟨bR4, 0, none⟩)), (6, .pointer (some ⟨b15, 0, none⟩)), (7, .int .i64 y18), (8, .pointer (some ⟨b25, 0, none⟩)), (9, .pointer (some ⟨b30, 0, none⟩)), (10, .pointer (some ⟨b75, 0, none⟩)), (11, .int .i64 t71.2.1)]) (by kernel_rfl) ?_
              refine WP.seq ?_
              refine WP.seqP [1, 5, 6, 7, 8, 9, 10, 77] (L' := [(1, .slice Al1 l1.length cl1), (5, .pointer (some ⟨bR4, 0, none⟩)), (6, .pointer (some ⟨b15, 0, none⟩)), (7, .int .i64 y18), (8, .pointer (some ⟨b25, 0, none⟩)), (9, .pointer (some ⟨b30, 0, none⟩)), (10, .pointer (some ⟨b75, 0, none⟩)), (77, .bool (t71.2.1 != 0))]) (by kernel_rfl) ?_
              refine WP.cond (b := (t71.2.1 != 0)) (by kernel_rfl) (fun hc => ?_) (fun hc => ?_)
              · replace hc := (bne_iff_ne.1 hc)
                rw [if_pos hc] at h
                have hc76 := hc
                clear hc
                refine WP.seq ?_
                rw [Option.bind_eq_some_iff] at h
                obtain ⟨os77, h, hk78⟩ := h
                refine WP.cut (fun L' G' Γ' => ∃ s77 : Bool, s77 = os77 ∧ L' = [(1, .slice Al1 l1.length cl1), (5, .pointer (some ⟨bR4, 0, none⟩)), (6, .pointer (some ⟨b15, 0, none⟩)), (7, .int .i64 y18), (86, .bool s77)] ∧ G = G' ∧ [(b75, .cells #[.int .i64 t71.1.f0, .int .i64 t71.1.f1] 23 (0, 0))] :: [(bR4, .cells #[.int .i64 t71.2.2.f0, .int .i64 t71.2.2.f1] 81 (0, 0))] :: [(b30, .cells #[.int .i64 t26.f0, .int .i64 t26.f1] 23 (0, 0))] :: [(b25, .cells #[.bool ((l1.getD y18.toNat z39).f0), .int .i64 ((l1.getD y18.toNat z39).f1), .int .i64 ((l1.getD y18.toNat z39).f2), .int .i64 ((l1.getD y18.toNat z39).f3)] 39 (0, 0))] :: [(b15, .cells #[.int .i64 y20.f0, .int .i64 y20.f1] 23 (0, 0))] :: Γ = Γ') ?_ ?_
                · clear hk78
                  skip
                  refine WP.any (N := 9) (S := [⟨some 78, [5], []⟩, ⟨some 79, [78], [0]⟩, ⟨some 80, [9], []⟩, ⟨some 81, [79, 80], [1, 2]⟩, ⟨some 82, [81], [1, 3]⟩, ⟨some 83, [10, 82], [4]⟩, ⟨some 84, [82], [4]⟩, ⟨some 85, [82, 83, 84], [4, 5, 6]⟩, ⟨some 86, [82, 85], [4, 7]⟩]) (kw := 9) (G0 := G) (Γ0 := [(b75, .cells #[.int .i64 t71.1.f0, .int .i64 t71.1.f1] 23 (0, 0))] :: [(bR4, .cells #[.int .i64 t71.2.2.f0, .int .i64 t71.2.2.f1] 81 (0, 0))] :: [(b30, .cells #[.int .i64 t26.f0, .int .i64 t26.f1] 23 (0, 0))] :: [(b25, .cells #[.bool ((l1.getD y18.toNat z39).f0), .int .i64 ((l1.getD y18.toNat z39).f1), .int .i64 ((l1.getD y18.toNat z39).f2), .int .i64 ((l1.getD y18.toNat z39).f3)] 39 (0, 0))] :: [(b15, .cells #[.int .i64 y20.f0, .int .i64 y20.f1] 23 (0, 0))] :: Γ) mo (by kernel_rfl) (fun hS => ?_)
                  refine WA.pure [0] [1, 5, 6, 7, 9, 10, 78] (m := 8) (b' := 1) (L' := [(1, .slice Al1 l1.length cl1), (5, .pointer (some ⟨bR4, 0, none⟩)), (6, .pointer (some ⟨b15, 0, none⟩)), (7, .int .i64 y18), (9, .pointer (some ⟨b30, 0, none⟩)), (10, .pointer (some ⟨b75, 0, none⟩)), (78, .pointer (some ⟨bR4, 0, none⟩))]) (by kernel_rfl) (NoPanic.then (NoPanic.then (NoPanic.then (NoPanic.then (NoPanic.block (NoPanic.then (NoPanic.then (NoPanic.block (NoPanic.then (NoPanic.then (NoPanic.body))))))))))) Under.refl hS (by kernel_rfl) ?_
                  refine WA.tellD [] (i := 2) (m := 7) (b' := 5) (by kernel_rfl) (NoPanic.then (NoPanic.then (NoPanic.then (NoPanic.then (NoPanic.block (NoPanic.then (NoPanic.then (NoPanic.block (NoPanic.then (NoPanic.then (NoPanic.body))))))))))) Under.refl hS (by kernel_rfl) (op := .load 23 (.tmp 9)) (ty := 23) (d := some 80) (g := none) (by kernel_rfl) (by kernel_rfl) (by kernel_rfl) (Tells.load_box (i := 2) (b := b30) (o := 0) (agg := true) (by rfl) ag23 (by kernel_rfl) (fun h => by cases h) (Nat.le_of_ble_eq_true rfl) (v := .agg #[.int .i64 t26.f0, .int .i64 t26.f1]) (by kernel_rfl)) ?_
                  refine WA.front (i := 1) rfl ?_
                  rw [Option.bind_eq_some_iff] at h
                  obtain ⟨t79, ht80, h⟩ := h
                  refine WA.op (i := 1) (m := 6) (b' := 7) (by kernel_rfl) hS (by kernel_rfl) (op := .call { callee := (.value (.func 25)), args := #[(.tmp 78)], argTypes := #[30] }) (ty := 23) (d := some 79) (g := none) (by kernel_rfl) (by kernel_rfl) (by kernel_rfl) (Does.call (f := 25) (args := [.pointer (some ⟨bR4, 0, none⟩)]) (by kernel_rfl) (fun W hI => (stamp_Clock_Last_calls t71.2.2 bR4 t79 ht80 hI))) ?_
                  rintro _ _ _ ⟨rfl, rfl, rfl⟩
                  refine ⟨_, _, (Under.trans (Under.front (i := 1) rfl (Under.refl)) (Under.refl)), Under.refl, ?_⟩
                  refine WA.tellD [] (i := 3) (m := 5) (b' := 15) (by kernel_rfl) (NoPanic.then (NoPanic.then (NoPanic.then (NoPanic.then (NoPanic.block (NoPanic.then (NoPanic.then (NoPanic.block (NoPanic.then (NoPanic.then (NoPanic.body))))))))))) Under.refl hS (by kernel_rfl) (op := .binOp .neq 23 (.tmp 79) (.tmp 80) 23) (ty := 4) (d := some 81) (g := none) (by kernel_rfl) (by kernel_rfl) (by kernel_rfl) (Tells.neAgg (xs := #[.int .i64 t79.f0, .int .i64 t79.f1]) (ys := #[.int .i64 t26.f0, .int .i64 t26.f1]) (ls := [.int t79.f0 t26.f0, .int t79.f1 t26.f1]) (by kernel_rfl) (by kernel_rfl) (by kernel_rfl) eg23) ?_
                  refine WA.reput 81 (v := .bool (!([.int t79.f0 t26.f0, .int t79.f1 t26.f1].all Lf.ok))) (v' := .bool (!decide (t79 = t26))) (by kernel_rfl) (by exact (congrArg (fun z => Value.bool (!z)) (eqT23 t79 t26))) ?_
                  refine WA.pure [4] [1, 5, 6, 7, 10, 82] (m := 4) (b' := 31) (L' := [(1, .slice Al1 l1.length cl1), (5, .pointer (some ⟨bR4, 0, none⟩)), (6, .pointer (some ⟨b15, 0, none⟩)), (7, .int .i64 y18), (10, .pointer (some ⟨b75, 0, none⟩)), (82, .bool (!decide (t79 = t26)))]) (by kernel_rfl) (NoPanic.then (NoPanic.then (NoPanic.then (NoPanic.then (NoPanic.block (NoPanic.then (NoPanic.then (NoPanic.block (NoPanic.then (NoPanic.then (NoPanic.body))))))))))) Under.refl hS (by kernel_rfl) ?_
                  refine WA.split 82 (b := (!decide (t79 = t26))) (by kernel_rfl) (fun hc => ?_) (fun hc => ?_)
                  · replace hc := (nd_true hc)
                    rw [if_pos hc] at h
                    have hc83 := hc
                    clear hc
                    refine WA.pure [5, 6, 7, 8] [1, 5, 6, 7, 86] (m := 0) (b' := 511) (L' := [(1, .slice Al1 l1.length cl1), (5, .pointer (some ⟨bR4, 0, none⟩)), (6, .pointer (some ⟨b15, 0, none⟩)), (7, .int .i64 y18), (86, .bool true)]) (by kernel_rfl) (NoPanic.then (NoPanic.then (NoPanic.then (NoPanic.then (NoPanic.block (NoPanic.then (NoPanic.then (NoPanic.block (NoPanic.then (NoPanic.then (NoPanic.body))))))))))) Under.refl hS (by kernel_rfl) ?_
                    refine WA.done hS (by kernel_rfl) ?_
                    refine QP.pick [1, 5, 6, 7, 86] ?_
                    refine QP.front (i := 4) rfl ?_
                    refine QP.front (i := 4) rfl ?_
                    refine QP.front (i := 4) rfl ?_
                    refine QP.front (i := 3) rfl ?_
                    refine QP.front (i := 4) rfl ?_
                    refine QP.pick [1, 5, 6, 7, 86] ?_
                    exact QP.meet ⟨_, Option.some.inj h, rfl, rfl, rfl⟩
                  · replace hc := (nd_false hc)
                    rw [if_neg hc] at h
                    have hc83 := hc
                    clear hc
                    refine WA.pure [6] [1, 5, 6, 7, 10, 82, 84] (m := 3) (b' := 95) (L' := [(1, .slice Al1 l1.length cl1), (5, .pointer (some ⟨bR4, 0, none⟩)), (6, .pointer (some ⟨b15, 0, none⟩)), (7, .int .i64 y18), (10, .pointer (some ⟨b75, 0, none⟩)), (82, .bool false), (84, .agg #[.int .i64 0, .int .i64 0])]) (by kernel_rfl) (NoPanic.then (NoPanic.then (NoPanic.then (NoPanic.then (NoPanic.block (NoPanic.then (NoPanic.then (NoPanic.block (NoPanic.then (NoPanic.then (NoPanic.body))))))))))) Under.refl hS (by kernel_rfl) ?_
                    refine WA.tellD [] (i := 5) (m := 2) (b' := 127) (by kernel_rfl) (NoPanic.then (NoPanic.then (NoPanic.then (NoPanic.then (NoPanic.block (NoPanic.then (NoPanic.then (NoPanic.block (NoPanic.then (NoPanic.then (NoPanic.body))))))))))) Under.refl hS (by kernel_rfl) (op := .load 23 (.tmp 10)) (ty := 23) (d := some 83) (g := some (4, false)) (by kernel_rfl) (by kernel_rfl) (by kernel_rfl) (Tells.load_box (i := 1) (b := b75) (o := 0) (agg := true) (by rfl) ag23 (by kernel_rfl) (fun h => by cases h) (Nat.le_of_ble_eq_true rfl) (v := .agg #[.int .i64 t71.1.f0, .int .i64 t71.1.f1]) (by kernel_rfl)) ?_
                    refine WA.tellD [] (i := 7) (m := 1) (b' := 255) (by kernel_rfl) (NoPanic.then (NoPanic.then (NoPanic.then (NoPanic.then (NoPanic.block (NoPanic.then (NoPanic.then (NoPanic.block (NoPanic.then (NoPanic.then (NoPanic.body))))))))))) Under.refl hS (by kernel_rfl) (op := .binOp .neq 23 (.tmp 83) (.tmp 84) 23) (ty := 4) (d := some 85) (g := some (4, false)) (by kernel_rfl) (by kernel_rfl) (by kernel_rfl) (Tells.neAgg (xs := #[.int .i64 t71.1.f0, .int .i64 t71.1.f1]) (ys := #[.int .i64 0, .int .i64 0]) (ls := [.int t71.1.f0 0, .int t71.1.f1 0]) (by kernel_rfl) (by kernel_rfl) (by kernel_rfl) eg23) ?_
                    refine WA.reput 85 (v := .bool (!([.int t71.1.f0 0, .int t71.1.f1 0].all Lf.ok))) (v' := .bool (!decide (t71.1 = (⟨0, 0⟩ : T23)))) (by kernel_rfl) (by exact (congrArg (fun z => Value.bool (!z)) (eqT23 t71.1 (⟨0, 0⟩ : T23)))) ?_
                    refine WA.pure [8] [1, 5, 6, 7, 86] (m := 0) (b' := 511) (L' := [(1, .slice Al1 l1.length cl1), (5, .pointer (some ⟨bR4, 0, none⟩)), (6, .pointer (some ⟨b15, 0, none⟩)), (7, .int .i64 y18), (86, .bool (!decide (t71.1 = (⟨0, 0⟩ : T23))))]) (by kernel_rfl) (NoPanic.then (NoPanic.then (NoPanic.then (NoPanic.then (NoPanic.block (NoPanic.then (NoPanic.then (NoPanic.block (NoPanic.then (NoPanic.then (NoPanic.body))))))))))) Under.refl hS (by kernel_rfl) ?_
                    refine WA.done hS (by kernel_rfl) ?_
                    refine QP.pick [1, 5, 6, 7, 86] ?_
                    refine QP.front (i := 4) rfl ?_
                    refine QP.front (i := 4) rfl ?_
                    refine QP.front (i := 4) rfl ?_
                    refine QP.front (i := 3) rfl ?_
                    refine QP.front (i := 4) rfl ?_
                    refine QP.pick [1, 5, 6, 7, 86] ?_
                    exact QP.meet ⟨_, Option.some.inj h, rfl, rfl, rfl⟩
                · rintro _ _ _ ⟨s77, rfl, rfl, rfl, rfl⟩
                  clear h
                  replace h := hk78
                  refine WP.cond (b := s77) (by kernel_rfl) (fun hc => ?_) (fun hc => ?_)
                  · replace hc := hc
                    rw [if_pos hc] at h
                    have hc84 := hc
                    clear hc
                    refine WP.seqP [4] (L' := [(4, .bool false)]) (by kernel_rfl) ?_
                    refine WP.dropAt 4 ?_
                    refine WP.dropAt 3 ?_
                    refine WP.dropAt 2 ?_
                    refine WP.dropAt 1 ?_
                    refine WP.dropAt 0 ?_
                    refine WP.ret ?_
                    refine QP.thenR ?_
                    refine QP.thenR ?_
                    refine QP.thenR ?_
                    refine QP.blockR ?_
                    refine QP.thenR ?_
                    refine QP.thenR ?_
                    refine QP.blockR ?_
                    refine QP.thenR ?_
                    refine QP.thenR ?_
                    obtain rfl := Option.some.inj h
                    obtain rfl := Option.some.inj (show some _ = some _ from hk17)
                    exact QP.returned [4] [.bool false] _ (by kernel_rfl) (by kernel_rfl) (by kernel_rfl) (fun W hI => ⟨_, _, _, rfl, ⟨rfl, rfl, rfl⟩, hI⟩)
                  · replace hc := (Bool.eq_false_iff.1 hc)
                    rw [if_neg hc] at h
                    have hc84 := hc
                    clear hc
                    refine WP.skip ?_
                    refine QP.next ?_
                    refine WP.pick [1, 5, 6, 7] ?_
                    refine WP.exit ?_
                    refine QP.thenE ?_
                    refine QP.thenE ?_
                    refine QP.blockE ?_
                    refine QP.next ?_
                    refine WP.pick [1, 5, 6, 7] ?_
                    refine WP.regionP [1, 5, 6, 7] (L' := [(1, .slice Al1 l1.length cl1), (5, .pointer (some ⟨bR4, 0, none⟩)), (6, .pointer (some ⟨b15, 0, none⟩)), (7, .int .i64 (IntKind.i64.wrap (y18 + 1)))]) (by kernel_rfl) ?_
                    refine QP.dropAt 3 ?_
                    refine QP.dropAt 2 ?_
                    refine QP.dropAt 0 ?_
                    refine QP.front (i := 1) rfl ?_
                    refine QP.pick [1, 5, 6, 7] ?_
                    exact QP.meet ⟨k22, Nat.lt_succ_self _, (IntKind.i64.wrap (y18 + 1)), t71.2.2, y20, h, rfl, rfl, rfl⟩
              · replace hc := (not_not_intro (bne_eq_false_iff_eq.1 hc))
                rw [if_neg hc] at h
                have hc76 := hc
                clear hc
                refine WP.skip ?_
                refine QP.next ?_
                refine WP.pick [1, 5, 6, 7, 8, 10] ?_
                rw [Option.bind_eq_some_iff] at h
                obtain ⟨os85, h, hk86⟩ := h
                refine WP.cut (fun L' G' Γ' => ∃ s85 : Bool, s85 = os85 ∧ L' = [(1, .slice Al1 l1.length cl1), (5, .pointer (some ⟨bR4, 0, none⟩)), (6, .pointer (some ⟨b15, 0, none⟩)), (7, .int .i64 y18), (108, .bool s85)] ∧ G = G' ∧ [(b75, .cells #[.int .i64 t71.1.f0, .int .i64 t71.1.f1] 23 (0, 0))] :: [(bR4, .cells #[.int .i64 t71.2.2.f0, .int .i64 t71.2.2.f1] 81 (0, 0))] :: [(b30, .cells #[.int .i64 t26.f0, .int .i64 t26.f1] 23 (0, 0))] :: [(b25, .cells #[.bool ((l1.getD y18.toNat z39).f0), .int .i64 ((l1.getD y18.toNat z39).f1), .int .i64 ((l1.getD y18.toNat z39).f2), .int .i64 ((l1.getD y18.toNat z39).f3)] 39 (0, 0))] :: [(b15, .cells #[.int .i64 y20.f0, .int .i64 y20.f1] 23 (0, 0))] :: Γ = Γ') ?_ ?_
                · clear hk86
                  skip
                  refine WP.any (N := 22) (S := [⟨some 87, [10], []⟩, ⟨some 88, [5], []⟩, ⟨some 89, [88], [1]⟩, ⟨some 90, [87, 89], [0, 2]⟩, ⟨some 91, [90], [2, 3]⟩, ⟨some 92, [6, 91], [4]⟩, ⟨some 93, [10, 91], [4]⟩, ⟨some 94, [91, 92, 93], [4, 5, 6]⟩, ⟨some 95, [91, 94], [4, 7]⟩, ⟨some 96, [91, 95], [4, 8]⟩, ⟨some 97, [96], [7, 9]⟩, ⟨some 98, [10, 97], [10]⟩, ⟨some 99, [97, 98], [10, 11]⟩, ⟨some 100, [8, 97], [10]⟩, ⟨some 101, [97, 100], [10, 13]⟩, ⟨some 102, [97, 99, 101], [10, 12, 14]⟩, ⟨some 103, [97, 102], [10, 15]⟩, ⟨some 104, [103], [10, 16]⟩, ⟨some 105, [10, 104], [17]⟩, ⟨some 106, [104, 105], [17, 18]⟩, ⟨some 107, [104, 106], [17, 19]⟩, ⟨some 108, [104, 107], [17, 20]⟩]) (kw := 22) (G0 := G) (Γ0 := [(b75, .cells #[.int .i64 t71.1.f0, .int .i64 t71.1.f1] 23 (0, 0))] :: [(bR4, .cells #[.int .i64 t71.2.2.f0, .int .i64 t71.2.2.f1] 81 (0, 0))] :: [(b30, .cells #[.int .i64 t26.f0, .int .i64 t26.f1] 23 (0, 0))] :: [(b25, .cells #[.bool ((l1.getD y18.toNat z39).f0), .int .i64 ((l1.getD y18.toNat z39).f1), .int .i64 ((l1.getD y18.toNat z39).f2), .int .i64 ((l1.getD y18.toNat z39).f3)] 39 (0, 0))] :: [(b15, .cells #[.int .i64 y20.f0, .int .i64 y20.f1] 23 (0, 0))] :: Γ) mo (by kernel_rfl) (fun hS => ?_)
                  refine WA.pure [1] [1, 5, 6, 7, 8, 10, 88] (m := 21) (b' := 2) (L' := [(1, .slice Al1 l1.length cl1), (5, .pointer (some ⟨bR4, 0, none⟩)), (6, .pointer (some ⟨b15, 0, none⟩)), (7, .int .i64 y18), (8, .pointer (some ⟨b25, 0, none⟩)), (10, .pointer (some ⟨b75, 0, none⟩)), (88, .pointer (some ⟨bR4, 0, none⟩))]) (by kernel_rfl) (NoPanic.then (NoPanic.then (NoPanic.block (NoPanic.then (NoPanic.then (NoPanic.block (NoPanic.then (NoPanic.then (NoPanic.body))))))))) Under.refl hS (by kernel_rfl) ?_
                  refine WA.tellD [] (i := 0) (m := 20) (b' := 3) (by kernel_rfl) (NoPanic.then (NoPanic.then (NoPanic.block (NoPanic.then (NoPanic.then (NoPanic.block (NoPanic.then (NoPanic.then (NoPanic.body))))))))) Under.refl hS (by kernel_rfl) (op := .load 23 (.tmp 10)) (ty := 23) (d := some 87) (g := none) (by kernel_rfl) (by kernel_rfl) (by kernel_rfl) (Tells.load_box (i := 0) (b := b75) (o := 0) (agg := true) (by rfl) ag23 (by kernel_rfl) (fun h => by cases h) (Nat.le_of_ble_eq_true rfl) (v := .agg #[.int .i64 t71.1.f0, .int .i64 t71.1.f1]) (by kernel_rfl)) ?_
                  refine WA.front (i := 1) rfl ?_
                  rw [Option.bind_eq_some_iff] at h
                  obtain ⟨t87, ht88, h⟩ := h
                  refine WA.op (i := 2) (m := 19) (b' := 7) (by kernel_rfl) hS (by kernel_rfl) (op := .call { callee := (.value (.func 25)), args := #[(.tmp 88)], argTypes := #[30] }) (ty := 23) (d := some 89) (g := none) (by kernel_rfl) (by kernel_rfl) (by kernel_rfl) (Does.call (f := 25) (args := [.pointer (some ⟨bR4, 0, none⟩)]) (by kernel_rfl) (fun W hI => (stamp_Clock_Last_calls t71.2.2 bR4 t87 ht88 hI))) ?_
                  rintro _ _ _ ⟨rfl, rfl, rfl⟩
                  refine ⟨_, _, (Under.trans (Under.front (i := 1) rfl (Under.refl)) (Under.refl)), Under.refl, ?_⟩
                  refine WA.tellD [] (i := 3) (m := 18) (b' := 15) (by kernel_rfl) (NoPanic.then (NoPanic.then (NoPanic.block (NoPanic.then (NoPanic.then (NoPanic.block (NoPanic.then (NoPanic.then (NoPanic.body))))))))) Under.refl hS (by kernel_rfl) (op := .binOp .neq 23 (.tmp 87) (.tmp 89) 23) (ty := 4) (d := some 90) (g := none) (by kernel_rfl) (by kernel_rfl) (by kernel_rfl) (Tells.neAgg (xs := #[.int .i64 t71.1.f0, .int .i64 t71.1.f1]) (ys := #[.int .i64 t87.f0, .int .i64 t87.f1]) (ls := [.int t71.1.f0 t87.f0, .int t71.1.f1 t87.f1]) (by kernel_rfl) (by kernel_rfl) (by kernel_rfl) eg23) ?_
                  refine WA.reput 90 (v := .bool (!([.int t71.1.f0 t87.f0, .int t71.1.f1 t87.f1].all Lf.ok))) (v' := .bool (!decide (t71.1 = t87))) (by kernel_rfl) (by exact (congrArg (fun z => Value.bool (!z)) (eqT23 t71.1 t87))) ?_
                  refine WA.pure [4] [1, 5, 6, 7, 8, 10, 91] (m := 17) (b' := 31) (L' := [(1, .slice Al1 l1.length cl1), (5, .pointer (some ⟨bR4, 0, none⟩)), (6, .pointer (some ⟨b15, 0, none⟩)), (7, .int .i64 y18), (8, .pointer (some ⟨b25, 0, none⟩)), (10, .pointer (some ⟨b75, 0, none⟩)), (91, .bool (!decide (t71.1 = t87)))]) (by kernel_rfl) (NoPanic.then (NoPanic.then (NoPanic.block (NoPanic.then (NoPanic.then (NoPanic.block (NoPanic.then (NoPanic.then (NoPanic.body))))))))) Under.refl hS (by kernel_rfl) ?_
                  refine WA.split 91 (b := (!decide (t71.1 = t87))) (by kernel_rfl) (fun hc => ?_) (fun hc => ?_)
                  · replace hc := (nd_true hc)
                    rw [if_pos hc] at h
                    have hc91 := hc
                    clear hc
                    refine WA.pure [5, 6, 7, 8, 9, 10, 11, 12, 13, 14, 15, 16, 17, 18, 19, 20, 21] [1, 5, 6, 7, 108] (m := 0) (b' := 4194303) (L' := [(1, .slice Al1 l1.length cl1), (5, .pointer (some ⟨bR4, 0, none⟩)), (6, .pointer (some ⟨b15, 0, none⟩)), (7, .int .i64 y18), (108, .bool true)]) (by kernel_rfl) (NoPanic.then (NoPanic.then (NoPanic.block (NoPanic.then (NoPanic.then (NoPanic.block (NoPanic.then (NoPanic.then (NoPanic.body))))))))) Under.refl hS (by kernel_rfl) ?_
                    refine WA.done hS (by kernel_rfl) ?_
                    refine QP.pick [1, 5, 6, 7, 108] ?_
                    refine QP.front (i := 4) rfl ?_
                    refine QP.front (i := 4) rfl ?_
                    refine QP.front (i := 4) rfl ?_
                    refine QP.front (i := 3) rfl ?_
                    refine QP.front (i := 4) rfl ?_
                    refine QP.pick [1, 5, 6, 7, 108] ?_
                    exact QP.meet ⟨_, Option.some.inj h, rfl, rfl, rfl⟩
                  · replace hc := (nd_false hc)
                    rw [if_neg hc] at h
                    have hc91 := hc
                    clear hc
                    refine WA.tellD [] (i := 5) (m := 16) (b' := 63) (by kernel_rfl) (NoPanic.then (NoPanic.then (NoPanic.block (NoPanic.then (NoPanic.then (NoPanic.block (NoPanic.then (NoPanic.then (NoPanic.body))))))))) Under.refl hS (by kernel_rfl) (op := .load 23 (.tmp 6)) (ty := 23) (d := some 92) (g := some (4, false)) (by kernel_rfl) (by kernel_rfl) (by kernel_rfl) (Tells.load_box (i := 4) (b := b15) (o := 0) (agg := true) (by rfl) ag23 (by kernel_rfl) (fun h => by cases h) (Nat.le_of_ble_eq_true rfl) (v := .agg #[.int .i64 y20.f0, .int .i64 y20.f1]) (by kernel_rfl)) ?_
                    refine WA.tellD [] (i := 6) (m := 15) (b' := 127) (by kernel_rfl) (NoPanic.then (NoPanic.then (NoPanic.block (NoPanic.then (NoPanic.then (NoPanic.block (NoPanic.then (NoPanic.then (NoPanic.body))))))))) Under.refl hS (by kernel_rfl) (op := .load 23 (.tmp 10)) (ty := 23) (d := some 93) (g := some (4, false)) (by kernel_rfl) (by kernel_rfl) (by kernel_rfl) (Tells.load_box (i := 1) (b := b75) (o := 0) (agg := true) (by rfl) ag23 (by kernel_rfl) (fun h => by cases h) (Nat.le_of_ble_eq_true rfl) (v := .agg #[.int .i64 t71.1.f0, .int .i64 t71.1.f1]) (by kernel_rfl)) ?_
                    rw [Option.bind_eq_some_iff] at h
                    obtain ⟨t92, ht93, h⟩ := h
                    refine WA.op (i := 7) (m := 14) (b' := 255) (by kernel_rfl) hS (by kernel_rfl) (op := .call { callee := (.value (.func 20)), args := #[(.tmp 92), (.tmp 93)], argTypes := #[23, 23] }) (ty := 4) (d := some 94) (g := some (4, false)) (by kernel_rfl) (by kernel_rfl) (by kernel_rfl) (Does.call (f := 20) (args := [.agg #[.int .i64 y20.f0, .int .i64 y20.f1], .agg #[.int .i64 t71.1.f0, .int .i64 t71.1.f1]]) (by kernel_rfl) (fun W hI => (stamp_Less_calls y20 t71.1  t92 ht93 hI))) ?_
                    rintro _ _ _ ⟨rfl, rfl, rfl⟩
                    refine ⟨_, _, Under.refl, Under.refl, ?_⟩
                    refine WA.pure [8, 9, 10] [1, 5, 6, 7, 8, 10, 97] (m := 11) (b' := 2047) (L' := [(1, .slice Al1 l1.length cl1), (5, .pointer (some ⟨bR4, 0, none⟩)), (6, .pointer (some ⟨b15, 0, none⟩)), (7, .int .i64 y18), (8, .pointer (some ⟨b25, 0, none⟩)), (10, .pointer (some ⟨b75, 0, none⟩)), (97, .bool (!t92))]) (by kernel_rfl) (NoPanic.then (NoPanic.then (NoPanic.block (NoPanic.then (NoPanic.then (NoPanic.block (NoPanic.then (NoPanic.then (NoPanic.body))))))))) Under.refl hS (by kernel_rfl) ?_
                    refine WA.split 97 (b := (!t92)) (by kernel_rfl) (fun hc => ?_) (fun hc => ?_)
                    · replace hc := hc
                      rw [if_pos hc] at h
                      have hc96 := hc
                      clear hc
                      refine WA.pure [11, 12, 13, 14, 15, 16, 17, 18, 19, 20, 21] [1, 5, 6, 7, 108] (m := 0) (b' := 4194303) (L' := [(1, .slice Al1 l1.length cl1), (5, .pointer (some ⟨bR4, 0, none⟩)), (6, .pointer (some ⟨b15, 0, none⟩)), (7, .int .i64 y18), (108, .bool true)]) (by kernel_rfl) (NoPanic.then (NoPanic.then (NoPanic.block (NoPanic.then (NoPanic.then (NoPanic.block (NoPanic.then (NoPanic.then (NoPanic.body))))))))) Under.refl hS (by kernel_rfl) ?_
                      refine WA.done hS (by kernel_rfl) ?_
                      refine QP.pick [1, 5, 6, 7, 108] ?_
                      refine QP.front (i := 4) rfl ?_
                      refine QP.front (i := 4) rfl ?_
                      refine QP.front (i := 4) rfl ?_
                      refine QP.front (i := 3) rfl ?_
                      refine QP.front (i := 4) rfl ?_
                      refine QP.pick [1, 5, 6, 7, 108] ?_
                      exact QP.meet ⟨_, Option.some.inj h, rfl, rfl, rfl⟩
                    · replace hc := (Bool.eq_false_iff.1 hc)
                      rw [if_neg hc] at h
                      have hc96 := hc
                      clear hc
                      refine WA.pure [11, 13] [1, 5, 6, 7, 10, 97, 98, 100] (m := 9) (b' := 12287) (L' := [(1, .slice Al1 l1.length cl1), (5, .pointer (some ⟨bR4, 0, none⟩)), (6, .pointer (some ⟨b15, 0, none⟩)), (7, .int .i64 y18), (10, .pointer (some ⟨b75, 0, none⟩)), (97, .bool false), (98, .pointer (some ⟨b75, 0, none⟩)), (100, .pointer (some ⟨b25, 3, none⟩))]) (by kernel_rfl) (NoPanic.then (NoPanic.then (NoPanic.block (NoPanic.then (NoPanic.then (NoPanic.block (NoPanic.then (NoPanic.then (NoPanic.body))))))))) Under.refl hS (by kernel_rfl) ?_
                      refine WA.tellD [] (i := 12) (m := 8) (b' := 16383) (by kernel_rfl) (NoPanic.then (NoPanic.then (NoPanic.block (NoPanic.then (NoPanic.then (NoPanic.block (NoPanic.then (NoPanic.then (NoPanic.body))))))))) Under.refl hS (by kernel_rfl) (op := .load 3 (.tmp 98)) (ty := 3) (d := some 99) (g := some (10, false)) (by kernel_rfl) (by kernel_rfl) (by kernel_rfl) (Tells.load_box (i := 1) (b := b75) (o := 0) (agg := false) (by rfl) ag3 (by kernel_rfl) (fun _ => rfl) (Nat.le_of_ble_eq_true rfl) (v := .int .i64 t71.1.f0) (by kernel_rfl)) ?_
                      refine WA.tellD [] (i := 14) (m := 7) (b' := 32767) (by kernel_rfl) (NoPanic.then (NoPanic.then (NoPanic.block (NoPanic.then (NoPanic.then (NoPanic.block (NoPanic.then (NoPanic.then (NoPanic.body))))))))) Under.refl hS (by kernel_rfl) (op := .load 3 (.tmp 100)) (ty := 3) (d := some 101) (g := some (10, false)) (by kernel_rfl) (by kernel_rfl) (by kernel_rfl) (Tells.load_box (i := 3) (b := b25) (o := 3) (agg := false) (by rfl) ag3 (by kernel_rfl) (fun _ => rfl) (Nat.le_of_ble_eq_true rfl) (v := .int .i64 ((l1.getD y18.toNat z39).f3)) (by kernel_rfl)) ?_
                      refine WA.pure [15, 16, 17] [1, 5, 6, 7, 10, 104] (m := 4) (b' := 262143) (L' := [(1, .slice Al1 l1.length cl1), (5, .pointer (some ⟨bR4, 0, none⟩)), (6, .pointer (some ⟨b15, 0, none⟩)), (7, .int .i64 y18), (10, .pointer (some ⟨b75, 0, none⟩)), (104, .bool (decide (t71.1.f0 < ((l1.getD y18.toNat z39).f3))))]) (by kernel_rfl) (NoPanic.then (NoPanic.then (NoPanic.block (NoPanic.then (NoPanic.then (NoPanic.block (NoPanic.then (NoPanic.then (NoPanic.body))))))))) Under.refl hS (by kernel_rfl) ?_
                      refine WA.split 104 (b := decide (t71.1.f0 < ((l1.getD y18.toNat z39).f3))) (by kernel_rfl) (fun hc => ?_) (fun hc => ?_)
                      · replace hc := of_decide_eq_true hc
                        rw [if_pos hc] at h
                        have hc97 := hc
                        clear hc
                        refine WA.pure [18, 19, 20, 21] [1, 5, 6, 7, 108] (m := 0) (b' := 4194303) (L' := [(1, .slice Al1 l1.length cl1), (5, .pointer (some ⟨bR4, 0, none⟩)), (6, .pointer (some ⟨b15, 0, none⟩)), (7, .int .i64 y18), (108, .bool true)]) (by kernel_rfl) (NoPanic.then (NoPanic.then (NoPanic.block (NoPanic.then (NoPanic.then (NoPanic.block (NoPanic.then (NoPanic.then (NoPanic.body))))))))) Under.refl hS (by kernel_rfl) ?_
                        refine WA.done hS (by kernel_rfl) ?_
                        refine QP.pick [1, 5, 6, 7, 108] ?_
                        refine QP.front (i := 4) rfl ?_
                        refine QP.front (i := 4) rfl ?_
                        refine QP.front (i := 4) rfl ?_
                        refine QP.front (i := 3) rfl ?_
                        refine QP.front (i := 4) rfl ?_
                        refine QP.pick [1, 5, 6, 7, 108] ?_
                        exact QP.meet ⟨_, Option.some.inj h, rfl, rfl, rfl⟩
                      · replace hc := of_decide_eq_false hc
                        rw [if_neg hc] at h
                        have hc97 := hc
                        clear hc
                        refine WA.tellD [] (i := 18) (m := 3) (b' := 524287) (by kernel_rfl) (NoPanic.then (NoPanic.then (NoPanic.block (NoPanic.then (NoPanic.then (NoPanic.block (NoPanic.then (NoPanic.then (NoPanic.body))))))))) Under.refl hS (by kernel_rfl) (op := .load 23 (.tmp 10)) (ty := 23) (d := some 105) (g := some (17, false)) (by kernel_rfl) (by kernel_rfl) (by kernel_rfl) (Tells.load_box (i := 1) (b := b75) (o := 0) (agg := true) (by rfl) ag23 (by kernel_rfl) (fun h => by cases h) (Nat.le_of_ble_eq_true rfl) (v := .agg #[.int .i64 t71.1.f0, .int .i64 t71.1.f1]) (by kernel_rfl)) ?_
                        rw [Option.bind_eq_some_iff] at h
                        obtain ⟨t98, ht99, h⟩ := h
                        refine WA.op (i := 19) (m := 2) (b' := 1048575) (by kernel_rfl) hS (by kernel_rfl) (op := .call { callee := (.value (.func 18)), args := #[(.tmp 105)], argTypes := #[23] }) (ty := 4) (d := some 106) (g := some (17, false)) (by kernel_rfl) (by kernel_rfl) (by kernel_rfl) (Does.call (f := 18) (args := [.agg #[.int .i64 t71.1.f0, .int .i64 t71.1.f1]]) (by kernel_rfl) (fun W hI => (stamp_May_calls t71.1  t98 ht99 hI))) ?_
                        rintro _ _ _ ⟨rfl, rfl, rfl⟩
                        refine ⟨_, _, Under.refl, Under.refl, ?_⟩
                        refine WA.pure [20, 21] [1, 5, 6, 7, 108] (m := 0) (b' := 4194303) (L' := [(1, .slice Al1 l1.length cl1), (5, .pointer (some ⟨bR4, 0, none⟩)), (6, .pointer (some ⟨b15, 0, none⟩)), (7, .int .i64 y18), (108, .bool (!t98))]) (by kernel_rfl) (NoPanic.then (NoPanic.then (NoPanic.block (NoPanic.then (NoPanic.then (NoPanic.block (NoPanic.then (NoPanic.then (NoPanic.body))))))))) Under.refl hS (by kernel_rfl) ?_
                        refine WA.done hS (by kernel_rfl) ?_
                        refine QP.pick [1, 5, 6, 7, 108] ?_
                        refine QP.front (i := 4) rfl ?_
                        refine QP.front (i := 4) rfl ?_
                        refine QP.front (i := 4) rfl ?_
                        refine QP.front (i := 3) rfl ?_
                        refine QP.front (i := 4) rfl ?_
                        refine QP.pick [1, 5, 6, 7, 108] ?_
                        exact QP.meet ⟨_, Option.some.inj h, rfl, rfl, rfl⟩
                · rintro _ _ _ ⟨s85, rfl, rfl, rfl, rfl⟩
                  clear h
                  replace h := hk86
                  refine WP.cond (b := s85) (by kernel_rfl) (fun hc => ?_) (fun hc => ?_)
                  · replace hc := hc
                    rw [if_pos hc] at h
                    have hc102 := hc
                    clear hc
                    refine WP.seqP [4] (L' := [(4, .bool false)]) (by kernel_rfl) ?_
                    refine WP.dropAt 4 ?_
                    refine WP.dropAt 3 ?_
                    refine WP.dropAt 2 ?_
                    refine WP.dropAt 1 ?_
                    refine WP.dropAt 0 ?_
                    refine WP.ret ?_
                    refine QP.thenR ?_
                    refine QP.blockR ?_
                    refine QP.thenR ?_
                    refine QP.thenR ?_
                    refine QP.blockR ?_
                    refine QP.thenR ?_
                    refine QP.thenR ?_
                    obtain rfl := Option.some.inj h
                    obtain rfl := Option.some.inj (show some _ = some _ from hk17)
                    exact QP.returned [4] [.bool false] _ (by kernel_rfl) (by kernel_rfl) (by kernel_rfl) (fun W hI => ⟨_, _, _, rfl, ⟨rfl, rfl, rfl⟩, hI⟩)
                  · replace hc := (Bool.eq_false_iff.1 hc)
                    rw [if_neg hc] at h
                    have hc102 := hc
                    clear hc
                    refine WP.skip ?_
                    refine QP.next ?_
                    refine WP.pick [1, 5, 6, 7] ?_
                    refine WP.region ?_
                    refine WL.pure 0 1 [1, 5, 6, 7, 109] (L' := [(1, .slice Al1 l1.length cl1), (5, .pointer (some ⟨bR4, 0, none⟩)), (6, .pointer (some ⟨b15, 0, none⟩)), (7, .int .i64 y18), (109, .pointer (some ⟨bR4, 0, none⟩))]) (by kernel_rfl) (by decide) ?_
                    refine WL.front (i := 1) rfl ?_
                    rw [Option.bind_eq_some_iff] at h
                    obtain ⟨t103, ht104, h⟩ := h
                    refine WL.op (op := .call { callee := (.value (.func 25)), args := #[(.tmp 109)], argTypes := #[30] }) (ty := 23) (d := some 110) (g := none) (by kernel_rfl) (by kernel_rfl) (by kernel_rfl) (Does.call (f := 25) (args := [.pointer (some ⟨bR4, 0, none⟩)]) (by kernel_rfl) (fun W hI => (stamp_Clock_Last_calls t71.2.2 bR4 t103 ht104 hI))) ?_
                    rintro _ _ _ ⟨rfl, rfl, rfl⟩
                    refine WL.op (op := .store 23 (.tmp 6) (.tmp 110)) (ty := 0) (d := none) (g := none) (by kernel_rfl) (by kernel_rfl) (by kernel_rfl) (Does.store_box (i := 4) (b := b15) (o := 0) (v := .agg #[.int .i64 t103.f0, .int .i64 t103.f1]) (by rfl) sz23 (by kernel_rfl) (by kernel_rfl) (by kernel_rfl) (Free.zero _) (Nat.le_of_ble_eq_true rfl) (cells' := #[.int .i64 t103.f0, .int .i64 t103.f1]) (by kernel_rfl)) ?_
                    rintro _ _ _ ⟨rfl, rfl, rfl⟩
                    refine WL.rest 3 [1, 5, 6, 7] (L' := [(1, .slice Al1 l1.length cl1), (5, .pointer (some ⟨bR4, 0, none⟩)), (6, .pointer (some ⟨b15, 0, none⟩)), (7, .int .i64 y18)]) (by kernel_rfl) ?_
                    refine QP.blockN ?_
                    refine QP.next ?_
                    refine WP.pick [1, 5, 6, 7] ?_
                    refine WP.regionP [1, 5, 6, 7] (L' := [(1, .slice Al1 l1.length cl1), (5, .pointer (some ⟨bR4, 0, none⟩)), (6, .pointer (some ⟨b15, 0, none⟩)), (7, .int .i64 (IntKind.i64.wrap (y18 + 1)))]) (by kernel_rfl) ?_
                    refine QP.dropAt 3 ?_
                    refine QP.dropAt 2 ?_
                    refine QP.dropAt 1 ?_
                    refine QP.front (i := 1) rfl ?_
                    refine QP.pick [1, 5, 6, 7] ?_
                    exact QP.meet ⟨k22, Nat.lt_succ_self _, (IntKind.i64.wrap (y18 + 1)), t71.2.2, t103, h, rfl, rfl, rfl⟩
          · replace hc := of_decide_eq_false hc
            rw [if_neg hc] at h
            have hc23 := hc
            clear hc
            refine WP.exit ?_
            refine QP.thenE ?_
            refine QP.thenE ?_
            refine QP.blockE ?_
            refine QP.pick [] ?_
            exact QP.meet ⟨_, Option.some.inj h, rfl, rfl, rfl⟩
      · rintro _ _ _ ⟨s16, rfl, rfl, rfl, rfl⟩
        clear h
        replace h := hk17
        refine QP.next ?_
        refine WP.pick [] ?_
        refine WP.seqR ?_
        rw [Option.bind_eq_some_iff] at h
        obtain ⟨t107, ht108, h⟩ := h
        refine WL.op (op := .call { callee := (.value (.func 17)), args := #[], argTypes := #[] }) (ty := 4) (d := some 111) (g := none) (by kernel_rfl) (by kernel_rfl) (by kernel_rfl) (Does.call (f := 17) (args := []) (by kernel_rfl) (fun W hI => (grapevinelaw2_awake_calls k   t107 ht108 hI))) ?_
        rintro _ _ _ ⟨rfl, rfl, rfl⟩
        refine WL.restQ 1 [4] (L' := [(4, .bool t107)]) (by kernel_rfl) ?_
        refine WP.dropAt 1 ?_
        refine WP.dropAt 0 ?_
        refine WP.ret ?_
        obtain rfl := Option.some.inj h
        exact QP.returned [4] [.bool t107] _ (by kernel_rfl) (by kernel_rfl) (by kernel_rfl) (fun W hI => ⟨_, _, _, rfl, ⟨rfl, rfl, rfl⟩, hI⟩)
/-- The plain law. -/
def StampRises_Pure : Prop := ∀ (a0 : T23) (l1 : List T39), ((Lit.int .i64 a0.f0).wf = true ∧ (Lit.int .i64 a0.f1).wf = true) → (l1.length ≤ maxLen ∧ ∀ z0 ∈ l1, (True ∧ (Lit.int .i64 z0.f1).wf = true ∧ (Lit.int .i64 z0.f2).wf = true ∧ (Lit.int .i64 z0.f3).wf = true)) → ∃ k, grapevinelaw2_StampRises k a0 l1 = some true
end Go.Proofs.Ytmphcmgbognmnaa.Gf
