/- Walks of Go functions: what each tells, as a plain Lean function, and that the Go code comes to it. Written by gg.py of this repo. -/
import Derived.Test.YtmphcmgbognmnaaT
import Derived.Test.YtmphcmgbognmnaaF0
namespace Go.Proofs.Ytmphcmgbognmnaa.Gf
open Go Go.Gg
set_option maxRecDepth 100000
set_option linter.unusedVariables false
set_option linter.unusedSimpArgs false

/-! ### grapevine/grapevinelaw2.StampTwo: function 8 -/
def grapevinelaw2_StampTwo_l0 (l0 : List Int) (a1 : Int) : Nat → Int → T23 → T81 → T81 → Option (Sum Bool (T23 × T81 × T81))
  | 0, _, _, _, _ => none
  | k + 1, y21, y22, y23, y24 => (if y21 < (l0.length : Int) then (if 0 ≤ (Int.tmod y21 60) then (if (Go.bits .and .i64 (shrK .i64 a1 (Int.tmod y21 60)) 1) = 1 then (if 0 ≤ y21 ∧ y21 < (l0.length : Int) then ((grapevinelaw0_Low (l0.getD y21.toNat 0) 1000).bind fun t31 => ((stamp_Clock_Tick y23 t31).bind fun t35 => ((if ¬ t35.2.1 = 0 then some (true, y24) else ((stamp_Less y22 t35.1).bind fun t43 => (if (!t43) = true then some (true, y24) else (if 0 ≤ y21 ∧ y21 < (l0.length : Int) then ((grapevinelaw0_Low (IntKind.i64.wrap (Int.tdiv (l0.getD y21.toNat 0) 2)) 1000).bind fun t49 => ((stamp_Clock_See k y24 t35.1 t49).bind fun t53 => (if ¬ t53.1 = 0 then some (true, t53.2) else ((stamp_Clock_Last t53.2).bind fun t58 => ((stamp_Less t35.1 t58).bind fun t62 => some ((!t62), t53.2)))))) else none)))).bind fun s40 => (if s40.1 = true then some (Sum.inl false) else grapevinelaw2_StampTwo_l0 l0 a1 k (IntKind.i64.wrap (y21 + 1)) t35.1 t35.2.2 s40.2)))) else none) else (if 0 ≤ y21 ∧ y21 < (l0.length : Int) then ((grapevinelaw0_Low (l0.getD y21.toNat 0) 1000).bind fun t68 => ((stamp_Clock_Tick y24 t68).bind fun t72 => ((if ¬ t72.2.1 = 0 then some (true, y23) else ((stamp_Less y22 t72.1).bind fun t80 => (if (!t80) = true then some (true, y23) else (if 0 ≤ y21 ∧ y21 < (l0.length : Int) then ((grapevinelaw0_Low (IntKind.i64.wrap (Int.tdiv (l0.getD y21.toNat 0) 2)) 1000).bind fun t86 => ((stamp_Clock_See k y23 t72.1 t86).bind fun t90 => (if ¬ t90.1 = 0 then some (true, t90.2) else ((stamp_Clock_Last t90.2).bind fun t95 => ((stamp_Less t72.1 t95).bind fun t99 => some ((!t99), t90.2)))))) else none)))).bind fun s77 => (if s77.1 = true then some (Sum.inl false) else grapevinelaw2_StampTwo_l0 l0 a1 k (IntKind.i64.wrap (y21 + 1)) t72.1 s77.2 t72.2.2)))) else none)) else none) else some (Sum.inr (y22, y23, y24)))
def grapevinelaw2_StampTwo (k : Nat) (l0 : List Int) (a1 : Int) : Option Bool := (if (l0.length : Int) > 40 then ((grapevinelaw2_awake k ).bind fun t2 => some t2) else ((stamp_New (⟨0, 0⟩ : T23)).bind fun t6 => Option.elim t6 ((stamp_New (⟨0, 0⟩ : T23)).bind fun t10 => Option.elim t10 (some false) (fun x13 => some false)) (fun x9 => ((stamp_New (⟨0, 0⟩ : T23)).bind fun t14 => Option.elim t14 (some false) (fun x17 => ((grapevinelaw2_StampTwo_l0 l0 a1 k 0 (⟨0, 0⟩ : T23) x17 x9).bind fun os19 => match os19 with | Sum.inl r => some r | Sum.inr s19 => ((grapevinelaw2_awake k ).bind fun t104 => some t104)))))))
set_option maxHeartbeats 4000000 in
theorem grapevinelaw2_StampTwo_calls {B : World} {G : GMap} {Γ : List Chunk} {W : World} (k : Nat) (l0 : List Int) (a1 : Int) (Al0 : Option Addr) (cl0 : Nat) (Hl0 : Rd (kInt .i64) G Al0 cl0 l0) (r : Bool) (h : grapevinelaw2_StampTwo k l0 a1 = some r) (hI : Inv B G (Γ) W) :
    Calls Try.prog 8 [.slice Al0 l0.length cl0, .int .i64 a1].toArray W (Ret B (fun v G' Γ' => v = .bool r ∧ G = G' ∧ Γ = Γ')) := by
  refine calls_WP (Γ := Γ) (G := G) (B := B) Try.func8 rfl (by kernel_rfl) ?_ hI
  clear hI
  unfold grapevinelaw2_StampTwo at h
  refine WP.seqP [0, 1] (L' := [(0, .slice Al0 l0.length cl0), (1, .int .i64 a1)]) (by kernel_rfl) ?_
  refine WP.seq ?_
  refine WP.seqP [0, 1, 15] (L' := [(0, .slice Al0 l0.length cl0), (1, .int .i64 a1), (15, .bool (decide ((l0.length : Int) > 40)))]) (by kernel_rfl) ?_
  refine WP.cond (b := decide ((l0.length : Int) > 40)) (by kernel_rfl) (fun hc => ?_) (fun hc => ?_)
  · replace hc := of_decide_eq_true hc
    rw [if_pos hc] at h
    have hc1 := hc
    clear hc
    refine WP.seqR ?_
    rw [Option.bind_eq_some_iff] at h
    obtain ⟨t2, ht3, h⟩ := h
    refine WL.op (op := .call { callee := (.value (.func 17)), args := #[], argTypes := #[] }) (ty := 4) (d := some 16) (g := none) (by kernel_rfl) (by kernel_rfl) (by kernel_rfl) (Does.call (f := 17) (args := []) (by kernel_rfl) (fun W hI => (grapevinelaw2_awake_calls k   t2 ht3 hI))) ?_
    rintro _ _ _ ⟨rfl, rfl, rfl⟩
    refine WL.restQ 1 [4] (L' := [(4, .bool t2)]) (by kernel_rfl) ?_
    refine WP.ret ?_
    refine QP.thenR ?_
    obtain rfl := Option.some.inj h
    exact QP.returned [4] [.bool t2] _ (by kernel_rfl) (by kernel_rfl) (by kernel_rfl) (fun W hI => ⟨_, _, _, rfl, ⟨rfl, rfl, rfl⟩, hI⟩)
  · replace hc := of_decide_eq_false hc
    rw [if_neg hc] at h
    have hc1 := hc
    clear hc
    refine WP.skip ?_
    refine QP.next ?_
    refine WP.pick [0, 1] ?_
    refine WP.seqR ?_
    refine WL.pure 0 1 [0, 1, 17] (L' := [(0, .slice Al0 l0.length cl0), (1, .int .i64 a1), (17, .agg #[.int .i64 0, .int .i64 0])]) (by kernel_rfl) (by decide) ?_
    rw [Option.bind_eq_some_iff] at h
    obtain ⟨t6, ht7, h⟩ := h
    refine WL.op (op := .call { callee := (.value (.func 24)), args := #[(.tmp 17)], argTypes := #[23] }) (ty := 30) (d := some 18) (g := none) (by kernel_rfl) (by kernel_rfl) (by kernel_rfl) (Does.call (f := 24) (args := [.agg #[.int .i64 0, .int .i64 0]]) (by kernel_rfl) (fun W hI => (stamp_New_calls (⟨0, 0⟩ : T23)  t6 ht7 hI))) ?_
    rintro _ _ _ (⟨hx, rfl, rfl, rfl⟩ | ⟨x9, hx, bR8, rfl, rfl, rfl⟩)
    · rw [hx] at h
      rw [Option.elim_none] at h
      clear hx
      refine WL.pure 2 3 [0, 1, 18, 19] (L' := [(0, .slice Al0 l0.length cl0), (1, .int .i64 a1), (18, .pointer none), (19, .agg #[.int .i64 0, .int .i64 0])]) (by kernel_rfl) (by decide) ?_
      rw [Option.bind_eq_some_iff] at h
      obtain ⟨t10, ht11, h⟩ := h
      refine WL.op (op := .call { callee := (.value (.func 24)), args := #[(.tmp 19)], argTypes := #[23] }) (ty := 30) (d := some 20) (g := none) (by kernel_rfl) (by kernel_rfl) (by kernel_rfl) (Does.call (f := 24) (args := [.agg #[.int .i64 0, .int .i64 0]]) (by kernel_rfl) (fun W hI => (stamp_New_calls (⟨0, 0⟩ : T23)  t10 ht11 hI))) ?_
      rintro _ _ _ (⟨hx, rfl, rfl, rfl⟩ | ⟨x13, hx, bR12, rfl, rfl, rfl⟩)
      · rw [hx] at h
        rw [Option.elim_none] at h
        clear hx
        refine WL.restQ 4 [0, 1, 5, 6] (L' := [(0, .slice Al0 l0.length cl0), (1, .int .i64 a1), (5, .pointer none), (6, .pointer none)]) (by kernel_rfl) ?_
        refine WP.seq ?_
        refine WP.seqP [0, 1, 5, 6, 26] (L' := [(0, .slice Al0 l0.length cl0), (1, .int .i64 a1), (5, .pointer none), (6, .pointer none), (26, .bool true)]) (by kernel_rfl) ?_
        refine WP.yes (by kernel_rfl) ?_
        refine WP.seqP [4] (L' := [(4, .bool false)]) (by kernel_rfl) ?_
        refine WP.ret ?_
        refine QP.thenR ?_
        obtain rfl := Option.some.inj h
        exact QP.returned [4] [.bool false] _ (by kernel_rfl) (by kernel_rfl) (by kernel_rfl) (fun W hI => ⟨_, _, _, rfl, ⟨rfl, rfl, rfl⟩, hI⟩)
      · rw [hx] at h
        rw [Option.elim_some] at h
        clear hx
        refine WL.restQ 4 [0, 1, 5, 6] (L' := [(0, .slice Al0 l0.length cl0), (1, .int .i64 a1), (5, .pointer none), (6, .pointer (some ⟨bR12, 0, none⟩))]) (by kernel_rfl) ?_
        refine WP.seq ?_
        refine WP.seqP [0, 1, 5, 6, 26] (L' := [(0, .slice Al0 l0.length cl0), (1, .int .i64 a1), (5, .pointer none), (6, .pointer (some ⟨bR12, 0, none⟩)), (26, .bool true)]) (by kernel_rfl) ?_
        refine WP.yes (by kernel_rfl) ?_
        refine WP.seqP [4] (L' := [(4, .bool false)]) (by kernel_rfl) ?_
        refine WP.dropAt 0 ?_
        refine WP.ret ?_
        refine QP.thenR ?_
        obtain rfl := Option.some.inj h
        exact QP.returned [4] [.bool false] _ (by kernel_rfl) (by kernel_rfl) (by kernel_rfl) (fun W hI => ⟨_, _, _, rfl, ⟨rfl, rfl, rfl⟩, hI⟩)
    · rw [hx] at h
      rw [Option.elim_some] at h
      clear hx
      refine WL.pure 2 3 [0, 1, 18, 19] (L' := [(0, .slice Al0 l0.length cl0), (1, .int .i64 a1), (18, .pointer (some ⟨bR8, 0, none⟩)), (19, .agg #[.int .i64 0, .int .i64 0])]) (by kernel_rfl) (by decide) ?_
      rw [Option.bind_eq_some_iff] at h
      obtain ⟨t14, ht15, h⟩ := h
      refine WL.op (op := .call { callee := (.value (.func 24)), args := #[(.tmp 19)], argTypes := #[23] }) (ty := 30) (d := some 20) (g := none) (by kernel_rfl) (by kernel_rfl) (by kernel_rfl) (Does.call (f := 24) (args := [.agg #[.int .i64 0, .int .i64 0]]) (by kernel_rfl) (fun W hI => (stamp_New_calls (⟨0, 0⟩ : T23)  t14 ht15 hI))) ?_
      rintro _ _ _ (⟨hx, rfl, rfl, rfl⟩ | ⟨x17, hx, bR16, rfl, rfl, rfl⟩)
      · rw [hx] at h
        rw [Option.elim_none] at h
        clear hx
        refine WL.restQ 4 [0, 1, 5, 6] (L' := [(0, .slice Al0 l0.length cl0), (1, .int .i64 a1), (5, .pointer (some ⟨bR8, 0, none⟩)), (6, .pointer none)]) (by kernel_rfl) ?_
        refine WP.seq ?_
        refine WP.seqP [0, 1, 5, 6, 26] (L' := [(0, .slice Al0 l0.length cl0), (1, .int .i64 a1), (5, .pointer (some ⟨bR8, 0, none⟩)), (6, .pointer none), (26, .bool true)]) (by kernel_rfl) ?_
        refine WP.yes (by kernel_rfl) ?_
        refine WP.seqP [4] (L' := [(4, .bool false)]) (by kernel_rfl) ?_
        refine WP.dropAt 0 ?_
        refine WP.ret ?_
        refine QP.thenR ?_
        obtain rfl := Option.some.inj h
        exact QP.returned [4] [.bool false] _ (by kernel_rfl) (by kernel_rfl) (by kernel_rfl) (fun W hI => ⟨_, _, _, rfl, ⟨rfl, rfl, rfl⟩, hI⟩)
      · rw [hx] at h
        rw [Option.elim_some] at h
        clear hx
        refine WL.restQ 4 [0, 1, 5, 6] (L' := [(0, .slice Al0 l0.length cl0), (1, .int .i64 a1), (5, .pointer (some ⟨bR8, 0, none⟩)), (6, .pointer (some ⟨bR16, 0, none⟩))]) (by kernel_rfl) ?_
        refine WP.seq ?_
        refine WP.seqP [0, 1, 5, 6, 26] (L' := [(0, .slice Al0 l0.length cl0), (1, .int .i64 a1), (5, .pointer (some ⟨bR8, 0, none⟩)), (6, .pointer (some ⟨bR16, 0, none⟩)), (26, .bool false)]) (by kernel_rfl) ?_
        refine WP.no (by kernel_rfl) ?_
        refine WP.skip ?_
        refine QP.next ?_
        refine WP.pick [0, 1, 5, 6] ?_
        refine WP.seqR ?_
        refine WL.pure 0 1 [0, 1, 5, 6, 27] (L' := [(0, .slice Al0 l0.length cl0), (1, .int .i64 a1), (5, .pointer (some ⟨bR8, 0, none⟩)), (6, .pointer (some ⟨bR16, 0, none⟩)), (27, .agg #[.int .i64 0, .int .i64 0])]) (by kernel_rfl) (by decide) ?_
        refine WL.op (op := .alloc 23) (ty := 0) (d := some 7) (g := none) (by kernel_rfl) (by kernel_rfl) (by kernel_rfl) (Does.new (o := .cells #[.int .i64 0, .int .i64 0] 23 (0, 0)) (v := fun r => .pointer (some ⟨r, 0, none⟩)) (fun r => by kernel_rfl)) ?_
        rintro _ _ _ ⟨b18, rfl, rfl, rfl⟩
        refine WL.op (op := .store 23 (.tmp 7) (.tmp 27)) (ty := 0) (d := none) (g := none) (by kernel_rfl) (by kernel_rfl) (by kernel_rfl) (Does.store_box (i := 0) (b := b18) (o := 0) (v := .agg #[.int .i64 0, .int .i64 0]) (by rfl) sz23 (by kernel_rfl) (by kernel_rfl) (by kernel_rfl) (Free.zero _) (Nat.le_of_ble_eq_true rfl) (cells' := #[.int .i64 0, .int .i64 0]) (by kernel_rfl)) ?_
        rintro _ _ _ ⟨rfl, rfl, rfl⟩
        refine WL.restQ 3 [0, 1, 5, 6, 7] (L' := [(0, .slice Al0 l0.length cl0), (1, .int .i64 a1), (5, .pointer (some ⟨bR8, 0, none⟩)), (6, .pointer (some ⟨bR16, 0, none⟩)), (7, .pointer (some ⟨b18, 0, none⟩))]) (by kernel_rfl) ?_
        refine WP.seq ?_
        refine WP.seqP [0, 1, 5, 6, 7, 8] (L' := [(0, .slice Al0 l0.length cl0), (1, .int .i64 a1), (5, .pointer (some ⟨bR8, 0, none⟩)), (6, .pointer (some ⟨bR16, 0, none⟩)), (7, .pointer (some ⟨b18, 0, none⟩)), (8, .int .i64 0)]) (by kernel_rfl) ?_
        rw [Option.bind_eq_some_iff] at h
        obtain ⟨os19, h, hk20⟩ := h
        refine WP.cutQ (fun L' G' Γ' => ∃ s19 : T23 × T81 × T81, Sum.inr s19 = os19 ∧ L' = [] ∧ G = G' ∧ [(b18, .cells #[.int .i64 s19.1.f0, .int .i64 s19.1.f1] 23 (0, 0))] :: [(bR16, .cells #[.int .i64 s19.2.1.f0, .int .i64 s19.2.1.f1] 81 (0, 0))] :: [(bR8, .cells #[.int .i64 s19.2.2.f0, .int .i64 s19.2.2.f1] 81 (0, 0))] :: Γ = Γ') ?_ ?_
        · skip
          refine WP.block ?_
          refine WP.pick [0, 1, 5, 6, 7, 8] ?_
          refine WP.loopF (fun k25 L' G' Γ' => ∃ (y21 : Int), ∃ (y22 : T23), ∃ (y23 : T81), ∃ (y24 : T81), grapevinelaw2_StampTwo_l0 l0 a1 k25 y21 y22 y23 y24 = some os19 ∧ L' = [(0, .slice Al0 l0.length cl0), (1, .int .i64 a1), (5, .pointer (some ⟨bR8, 0, none⟩)), (6, .pointer (some ⟨bR16, 0, none⟩)), (7, .pointer (some ⟨b18, 0, none⟩)), (8, .int .i64 y21)] ∧ G = G' ∧ [(b18, .cells #[.int .i64 y22.f0, .int .i64 y22.f1] 23 (0, 0))] :: [(bR16, .cells #[.int .i64 y23.f0, .int .i64 y23.f1] 81 (0, 0))] :: [(bR8, .cells #[.int .i64 y24.f0, .int .i64 y24.f1] 81 (0, 0))] :: Γ = Γ') ?_ k ⟨0, (⟨0, 0⟩ : T23), x17, x9, h, rfl, rfl, rfl⟩
          clear h
          rintro k26 _ _ _ ⟨y21, y22, y23, y24, h, rfl, rfl, rfl⟩
          cases k26 with
          | zero => exact absurd h (by simp [grapevinelaw2_StampTwo_l0])
          | succ k26 =>
            simp only [grapevinelaw2_StampTwo_l0] at h
            refine WP.seq ?_
            refine WP.seqP [0, 1, 5, 6, 7, 8, 31] (L' := [(0, .slice Al0 l0.length cl0), (1, .int .i64 a1), (5, .pointer (some ⟨bR8, 0, none⟩)), (6, .pointer (some ⟨bR16, 0, none⟩)), (7, .pointer (some ⟨b18, 0, none⟩)), (8, .int .i64 y21), (31, .bool (decide (y21 < (l0.length : Int))))]) (by kernel_rfl) ?_
            refine WP.cond (b := decide (y21 < (l0.length : Int))) (by kernel_rfl) (fun hc => ?_) (fun hc => ?_)
            · replace hc := of_decide_eq_true hc
              rw [if_pos hc] at h
              have hc27 := hc
              clear hc
              refine WP.skip ?_
              refine QP.next ?_
              refine WP.pick [0, 1, 5, 6, 7, 8] ?_
              refine WP.seq ?_
              refine WP.block ?_
              refine WP.seqP [0, 1, 5, 6, 7, 8, 9, 10] (L' := [(0, .slice Al0 l0.length cl0), (1, .int .i64 a1), (5, .pointer (some ⟨bR8, 0, none⟩)), (6, .pointer (some ⟨bR16, 0, none⟩)), (7, .pointer (some ⟨b18, 0, none⟩)), (8, .int .i64 y21), (9, .pointer (some ⟨bR8, 0, none⟩)), (10, .pointer (some ⟨bR16, 0, none⟩))]) (by kernel_rfl) ?_
              refine WP.seq ?_
              refine WP.seqR ?_
              refine WL.pure 0 3 [0, 1, 5, 6, 7, 8, 9, 10, 36, 38] (L' := [(0, .slice Al0 l0.length cl0), (1, .int .i64 a1), (5, .pointer (some ⟨bR8, 0, none⟩)), (6, .pointer (some ⟨bR16, 0, none⟩)), (7, .pointer (some ⟨b18, 0, none⟩)), (8, .int .i64 y21), (9, .pointer (some ⟨bR8, 0, none⟩)), (10, .pointer (some ⟨bR16, 0, none⟩)), (36, .int .i64 a1), (38, .int .i64 (Int.tmod y21 60))]) (by kernel_rfl) (by decide) ?_
              by_cases hb28 : 0 ≤ (Int.tmod y21 60)
              case neg => rw [if_neg hb28] at h; cases h
              rw [if_pos hb28] at h
              refine WL.tell (op := .binOp .shr 3 (.tmp 36) (.tmp 38) 3) (ty := 3) (d := some 39) (g := none) (by kernel_rfl) (by kernel_rfl) (by kernel_rfl) (Tells.shr (k := .i64) (k' := .i64) (a := a1) (b := (Int.tmod y21 60)) (by kernel_rfl) (by kernel_rfl) hb28) ?_
              refine WL.restQ 4 [0, 1, 5, 6, 7, 8, 9, 10, 41] (L' := [(0, .slice Al0 l0.length cl0), (1, .int .i64 a1), (5, .pointer (some ⟨bR8, 0, none⟩)), (6, .pointer (some ⟨bR16, 0, none⟩)), (7, .pointer (some ⟨b18, 0, none⟩)), (8, .int .i64 y21), (9, .pointer (some ⟨bR8, 0, none⟩)), (10, .pointer (some ⟨bR16, 0, none⟩)), (41, .bool ((Go.bits .and .i64 (shrK .i64 a1 (Int.tmod y21 60)) 1) == 1))]) (by kernel_rfl) ?_
              refine WP.cond (b := ((Go.bits .and .i64 (shrK .i64 a1 (Int.tmod y21 60)) 1) == 1)) (by kernel_rfl) (fun hc => ?_) (fun hc => ?_)
              · replace hc := eq_of_beq hc
                rw [if_pos hc] at h
                have hc29 := hc
                clear hc
                refine WP.regionP [0, 1, 5, 6, 7, 8, 9, 10] (L' := [(0, .slice Al0 l0.length cl0), (1, .int .i64 a1), (5, .pointer (some ⟨bR8, 0, none⟩)), (6, .pointer (some ⟨bR16, 0, none⟩)), (7, .pointer (some ⟨b18, 0, none⟩)), (8, .int .i64 y21), (9, .pointer (some ⟨bR16, 0, none⟩)), (10, .pointer (some ⟨bR8, 0, none⟩))]) (by kernel_rfl) ?_
                refine QP.next ?_
                refine WP.pick [0, 1, 5, 6, 7, 8, 9, 10] ?_
                refine WP.seqR ?_
                refine WL.pure 0 3 [0, 1, 5, 6, 7, 8, 10, 45, 46, 47] (L' := [(0, .slice Al0 l0.length cl0), (1, .int .i64 a1), (5, .pointer (some ⟨bR8, 0, none⟩)), (6, .pointer (some ⟨bR16, 0, none⟩)), (7, .pointer (some ⟨b18, 0, none⟩)), (8, .int .i64 y21), (10, .pointer (some ⟨bR8, 0, none⟩)), (45, .pointer (some ⟨bR16, 0, none⟩)), (46, .slice Al0 l0.length cl0), (47, .int .i64 y21)]) (by kernel_rfl) (by decide) ?_
                by_cases hb30 : 0 ≤ y21 ∧ y21 < (l0.length : Int)
                case neg => rw [if_neg hb30] at h; cases h
                rw [if_pos hb30] at h
                refine WL.tell (op := .indexAddr 52 (.tmp 46) (.tmp 47)) (ty := 0) (d := some 48) (g := none) (by kernel_rfl) (by kernel_rfl) (by kernel_rfl) (Tells.indexAddr (A := Al0) (n := l0.length) (c := cl0) (k := .i64) (j := y21) (by kernel_rfl) (by kernel_rfl) (Hl0.isSome hb30.1 hb30.2) hb30.1 hb30.2 sl52) ?_
                refine WL.tellE (op := .load 3 (.tmp 48)) (ty := 3) (d := some 49) (g := none) (by kernel_rfl) (by kernel_rfl) (by kernel_rfl) (Hl0.load (agg := false) hb30.1 hb30.2 0 ag3 (fun _ => rfl) (by kernel_rfl)) ?_
                rintro _ rfl
                rw [Option.bind_eq_some_iff] at h
                obtain ⟨t31, ht32, h⟩ := h
                refine WL.op (op := .call { callee := (.value (.func 31)), args := #[(.tmp 49), (.const (.int .i64 1000))], argTypes := #[3, 3] }) (ty := 3) (d := some 50) (g := none) (by kernel_rfl) (by kernel_rfl) (by kernel_rfl) (Does.call (f := 31) (args := [.int .i64 (l0.getD y21.toNat 0), .int .i64 1000]) (by kernel_rfl) (fun W hI => (grapevinelaw0_Low_calls (l0.getD y21.toNat 0) 1000  t31 ht32 hI))) ?_
                rintro _ _ _ ⟨rfl, rfl, rfl⟩
                refine WL.front (i := 1) rfl ?_
                rw [Option.bind_eq_some_iff] at h
                obtain ⟨t35, ht36, h⟩ := h
                refine WL.op (op := .call { callee := (.value (.func 29)), args := #[(.tmp 45), (.tmp 50)], argTypes := #[30, 3] }) (ty := 44) (d := some 51) (g := none) (by kernel_rfl) (by kernel_rfl) (by kernel_rfl) (Does.call (f := 29) (args := [.pointer (some ⟨bR16, 0, none⟩), .int .i64 t31]) (by kernel_rfl) (fun W hI => (stamp_Clock_Tick_calls y23 t31 bR16 t35 ht36 hI))) ?_
                rintro _ _ _ ⟨rfl, rfl, rfl⟩
                refine WL.pure 7 10 [0, 1, 5, 6, 7, 8, 10, 52, 53] (L' := [(0, .slice Al0 l0.length cl0), (1, .int .i64 a1), (5, .pointer (some ⟨bR8, 0, none⟩)), (6, .pointer (some ⟨bR16, 0, none⟩)), (7, .pointer (some ⟨b18, 0, none⟩)), (8, .int .i64 y21), (10, .pointer (some ⟨bR8, 0, none⟩)), (52, .agg #[.int .i64 t35.1.f0, .int .i64 t35.1.f1]), (53, .int .i64 t35.2.1)]) (by kernel_rfl) (by decide) ?_
                refine WL.op (op := .alloc 23) (ty := 0) (d := some 11) (g := none) (by kernel_rfl) (by kernel_rfl) (by kernel_rfl) (Does.new (o := .cells #[.int .i64 0, .int .i64 0] 23 (0, 0)) (v := fun r => .pointer (some ⟨r, 0, none⟩)) (fun r => by kernel_rfl)) ?_
                rintro _ _ _ ⟨b39, rfl, rfl, rfl⟩
                refine WL.op (op := .store 23 (.tmp 11) (.tmp 52)) (ty := 0) (d := none) (g := none) (by kernel_rfl) (by kernel_rfl) (by kernel_rfl) (Does.store_box (i := 0) (b := b39) (o := 0) (v := .agg #[.int .i64 t35.1.f0, .int .i64 t35.1.f1]) (by rfl) sz23 (by kernel_rfl) (by kernel_rfl) (by kernel_rfl) (Free.zero _) (Nat.le_of_ble_eq_true rfl) (cells' := #[.int .i64 t35.1.f0, .int .i64 t35.1.f1]) (by kernel_rfl)) ?_
                rintro _ _ _ ⟨rfl, rfl, rfl⟩
                refine WL.restQ 12 [0, 1, 5, 6, 7, 8, 10, 11, 12] (L' := [(0, .slice Al0 l0.length cl0), (1, .int .i64 a1), (5, .pointer (some ⟨bR8, 0, none⟩)), (6, .pointer (some ⟨bR16, 0, none⟩)), (7, .pointer (some ⟨b18, 0, none⟩)), (8, .int .i64 y21), (10, .pointer (some ⟨bR8, 0, none⟩)), (11, .pointer (some ⟨b39, 0, none⟩)), (12, .int .i64 t35.2.1)]) (by kernel_rfl) ?_
                refine WP.seq ?_
                rw [Option.bind_eq_some_iff] at h
                obtain ⟨os40, h, hk41⟩ := h
                refine WP.cut (fun L' G' Γ' => ∃ s40 : Bool × T81, s40 = os40 ∧ L' = [(0, .slice Al0 l0.length cl0), (1, .int .i64 a1), (5, .pointer (some ⟨bR8, 0, none⟩)), (6, .pointer (some ⟨bR16, 0, none⟩)), (7, .pointer (some ⟨b18, 0, none⟩)), (8, .int .i64 y21), (11, .pointer (some ⟨b39, 0, none⟩)), (80, .bool s40.1)] ∧ G = G' ∧ [(b39, .cells #[.int .i64 t35.1.f0, .int .i64 t35.1.f1] 23 (0, 0))] :: [(bR16, .cells #[.int .i64 t35.2.2.f0, .int .i64 t35.2.2.f1] 81 (0, 0))] :: [(b18, .cells #[.int .i64 y22.f0, .int .i64 y22.f1] 23 (0, 0))] :: [(bR8, .cells #[.int .i64 s40.2.f0, .int .i64 s40.2.f1] 81 (0, 0))] :: Γ = Γ') ?_ ?_
                · clear hk41
                  skip
                  refine WP.any (N := 27) (S := [⟨some 54, [12], []⟩, ⟨some 55, [54], [0]⟩, ⟨some 56, [55], [1]⟩, ⟨some 57, [7, 56], [2]⟩, ⟨some 58, [11, 56], [2]⟩, ⟨some 59, [56, 57, 58], [2, 3, 4]⟩, ⟨some 60, [56, 59], [2, 5]⟩, ⟨some 61, [56, 60], [2, 6]⟩, ⟨some 62, [61], [5, 7]⟩, ⟨some 63, [10, 62], [8]⟩, ⟨some 64, [11, 62], [8]⟩, ⟨some 65, [0, 62], [8]⟩, ⟨some 66, [8, 62], [8]⟩, ⟨some 67, [62, 65, 66], [8, 11, 12]⟩, ⟨some 68, [62, 67], [8, 13]⟩, ⟨some 69, [62, 68], [8, 14]⟩, ⟨some 70, [62, 69], [8, 15]⟩, ⟨some 71, [62, 63, 64, 70], [8, 9, 10, 16]⟩, ⟨some 72, [62, 71], [8, 17]⟩, ⟨some 73, [62, 72], [8, 18]⟩, ⟨some 74, [73], [17, 19]⟩, ⟨some 75, [11, 74], [20]⟩, ⟨some 76, [10, 74], [20]⟩, ⟨some 77, [74, 76], [20, 22]⟩, ⟨some 78, [74, 75, 77], [20, 21, 23]⟩, ⟨some 79, [74, 78], [20, 24]⟩, ⟨some 80, [74, 79], [20, 25]⟩]) (kw := 17) (G0 := G) (Γ0 := [(b39, .cells #[.int .i64 t35.1.f0, .int .i64 t35.1.f1] 23 (0, 0))] :: [(bR16, .cells #[.int .i64 t35.2.2.f0, .int .i64 t35.2.2.f1] 81 (0, 0))] :: [(b18, .cells #[.int .i64 y22.f0, .int .i64 y22.f1] 23 (0, 0))] :: [(bR8, .cells #[.int .i64 y24.f0, .int .i64 y24.f1] 81 (0, 0))] :: Γ) mo (by kernel_rfl) (fun hS => ?_)
                  refine WA.pure [0, 1, 2] [0, 1, 5, 6, 7, 8, 10, 11, 56] (m := 24) (b' := 7) (L' := [(0, .slice Al0 l0.length cl0), (1, .int .i64 a1), (5, .pointer (some ⟨bR8, 0, none⟩)), (6, .pointer (some ⟨bR16, 0, none⟩)), (7, .pointer (some ⟨b18, 0, none⟩)), (8, .int .i64 y21), (10, .pointer (some ⟨bR8, 0, none⟩)), (11, .pointer (some ⟨b39, 0, none⟩)), (56, .bool (t35.2.1 != 0))]) (by kernel_rfl) (NoPanic.then (NoPanic.then (NoPanic.block (NoPanic.then (NoPanic.then (NoPanic.block (NoPanic.then (NoPanic.then (NoPanic.body))))))))) Under.refl hS (by kernel_rfl) ?_
                  refine WA.split 56 (b := (t35.2.1 != 0)) (by kernel_rfl) (fun hc => ?_) (fun hc => ?_)
                  · replace hc := (bne_iff_ne.1 hc)
                    rw [if_pos hc] at h
                    have hc42 := hc
                    clear hc
                    refine WA.pure [3, 4, 5, 6, 7, 8, 9, 10, 11, 12, 13, 14, 15, 16] [0, 1, 5, 6, 7, 8, 10, 11, 62, 63, 64, 70] (m := 10) (b' := 131071) (L' := [(0, .slice Al0 l0.length cl0), (1, .int .i64 a1), (5, .pointer (some ⟨bR8, 0, none⟩)), (6, .pointer (some ⟨bR16, 0, none⟩)), (7, .pointer (some ⟨b18, 0, none⟩)), (8, .int .i64 y21), (10, .pointer (some ⟨bR8, 0, none⟩)), (11, .pointer (some ⟨b39, 0, none⟩)), (62, .bool true), (63, undef), (64, undef), (70, undef)]) (by kernel_rfl) (NoPanic.then (NoPanic.then (NoPanic.block (NoPanic.then (NoPanic.then (NoPanic.block (NoPanic.then (NoPanic.then (NoPanic.body))))))))) Under.refl hS (by kernel_rfl) ?_
                    refine WA.free (kw' := 27) (by rw [arr_size]; decide) ?_
                    refine WA.pure [17, 18, 19, 20, 21, 22, 23, 24, 25, 26] [0, 1, 5, 6, 7, 8, 11, 80] (m := 0) (b' := 134217727) (L' := [(0, .slice Al0 l0.length cl0), (1, .int .i64 a1), (5, .pointer (some ⟨bR8, 0, none⟩)), (6, .pointer (some ⟨bR16, 0, none⟩)), (7, .pointer (some ⟨b18, 0, none⟩)), (8, .int .i64 y21), (11, .pointer (some ⟨b39, 0, none⟩)), (80, .bool true)]) (by kernel_rfl) (NoPanic.then (NoPanic.then (NoPanic.block (NoPanic.then (NoPanic.then (NoPanic.block (NoPanic.then (NoPanic.then (NoPanic.body))))))))) Under.refl hS (by kernel_rfl) ?_
                    refine WA.done hS (by kernel_rfl) ?_
                    refine QP.pick [0, 1, 5, 6, 7, 8, 11, 80] ?_
                    refine QP.pick [0, 1, 5, 6, 7, 8, 11, 80] ?_
                    exact QP.meet ⟨_, Option.some.inj h, rfl, rfl, rfl⟩
                  · replace hc := (not_not_intro (bne_eq_false_iff_eq.1 hc))
                    rw [if_neg hc] at h
                    have hc42 := hc
                    clear hc
                    refine WA.tellD [17, 8, 5] (i := 3) (m := 23) (b' := 15) (by kernel_rfl) (NoPanic.then (NoPanic.then (NoPanic.block (NoPanic.then (NoPanic.then (NoPanic.block (NoPanic.then (NoPanic.then (NoPanic.body))))))))) Under.refl hS (by kernel_rfl) (op := .load 23 (.tmp 7)) (ty := 23) (d := some 57) (g := some (2, false)) (by kernel_rfl) (by kernel_rfl) (by kernel_rfl) (Tells.load_box (i := 2) (b := b18) (o := 0) (agg := true) (by rfl) ag23 (by kernel_rfl) (fun h => by cases h) (Nat.le_of_ble_eq_true rfl) (v := .agg #[.int .i64 y22.f0, .int .i64 y22.f1]) (by kernel_rfl)) ?_
                    refine WA.tellD [17, 8, 5] (i := 4) (m := 22) (b' := 31) (by kernel_rfl) (NoPanic.then (NoPanic.then (NoPanic.block (NoPanic.then (NoPanic.then (NoPanic.block (NoPanic.then (NoPanic.then (NoPanic.body))))))))) Under.refl hS (by kernel_rfl) (op := .load 23 (.tmp 11)) (ty := 23) (d := some 58) (g := some (2, false)) (by kernel_rfl) (by kernel_rfl) (by kernel_rfl) (Tells.load_box (i := 0) (b := b39) (o := 0) (agg := true) (by rfl) ag23 (by kernel_rfl) (fun h => by cases h) (Nat.le_of_ble_eq_true rfl) (v := .agg #[.int .i64 t35.1.f0, .int .i64 t35.1.f1]) (by kernel_rfl)) ?_
                    rw [Option.bind_eq_some_iff] at h
                    obtain ⟨t43, ht44, h⟩ := h
                    refine WA.op (i := 5) (m := 21) (b' := 63) (by kernel_rfl) hS (by kernel_rfl) (op := .call { callee := (.value (.func 20)), args := #[(.tmp 57), (.tmp 58)], argTypes := #[23, 23] }) (ty := 4) (d := some 59) (g := some (2, false)) (by kernel_rfl) (by kernel_rfl) (by kernel_rfl) (Does.call (f := 20) (args := [.agg #[.int .i64 y22.f0, .int .i64 y22.f1], .agg #[.int .i64 t35.1.f0, .int .i64 t35.1.f1]]) (by kernel_rfl) (fun W hI => (stamp_Less_calls y22 t35.1  t43 ht44 hI))) ?_
                    rintro _ _ _ ⟨rfl, rfl, rfl⟩
                    refine ⟨_, _, Under.refl, Under.refl, ?_⟩
                    refine WA.pure [6, 7, 8] [0, 1, 5, 6, 7, 8, 10, 11, 62] (m := 18) (b' := 511) (L' := [(0, .slice Al0 l0.length cl0), (1, .int .i64 a1), (5, .pointer (some ⟨bR8, 0, none⟩)), (6, .pointer (some ⟨bR16, 0, none⟩)), (7, .pointer (some ⟨b18, 0, none⟩)), (8, .int .i64 y21), (10, .pointer (some ⟨bR8, 0, none⟩)), (11, .pointer (some ⟨b39, 0, none⟩)), (62, .bool (!t43))]) (by kernel_rfl) (NoPanic.then (NoPanic.then (NoPanic.block (NoPanic.then (NoPanic.then (NoPanic.block (NoPanic.then (NoPanic.then (NoPanic.body))))))))) Under.refl hS (by kernel_rfl) ?_
                    refine WA.split 62 (b := (!t43)) (by kernel_rfl) (fun hc => ?_) (fun hc => ?_)
                    · replace hc := hc
                      rw [if_pos hc] at h
                      have hc47 := hc
                      clear hc
                      refine WA.pure [9, 10, 11, 12, 13, 14, 15, 16] [0, 1, 5, 6, 7, 8, 10, 11, 62, 63, 64, 70] (m := 10) (b' := 131071) (L' := [(0, .slice Al0 l0.length cl0), (1, .int .i64 a1), (5, .pointer (some ⟨bR8, 0, none⟩)), (6, .pointer (some ⟨bR16, 0, none⟩)), (7, .pointer (some ⟨b18, 0, none⟩)), (8, .int .i64 y21), (10, .pointer (some ⟨bR8, 0, none⟩)), (11, .pointer (some ⟨b39, 0, none⟩)), (62, .bool true), (63, undef), (64, undef), (70, undef)]) (by kernel_rfl) (NoPanic.then (NoPanic.then (NoPanic.block (NoPanic.then (NoPanic.then (NoPanic.block (NoPanic.then (NoPanic.then (NoPanic.body))))))))) Under.refl hS (by kernel_rfl) ?_
                      refine WA.free (kw' := 27) (by rw [arr_size]; decide) ?_
                      refine WA.pure [17, 18, 19, 20, 21, 22, 23, 24, 25, 26] [0, 1, 5, 6, 7, 8, 11, 80] (m := 0) (b' := 134217727) (L' := [(0, .slice Al0 l0.length cl0), (1, .int .i64 a1), (5, .pointer (some ⟨bR8, 0, none⟩)), (6, .pointer (some ⟨bR16, 0, none⟩)), (7, .pointer (some ⟨b18, 0, none⟩)), (8, .int .i64 y21), (11, .pointer (some ⟨b39, 0, none⟩)), (80, .bool true)]) (by kernel_rfl) (NoPanic.then (NoPanic.then (NoPanic.block (NoPanic.then (NoPanic.then (NoPanic.block (NoPanic.then (NoPanic.then (NoPanic.body))))))))) Under.refl hS (by kernel_rfl) ?_
                      refine WA.done hS (by kernel_rfl) ?_
                      refine QP.pick [0, 1, 5, 6, 7, 8, 11, 80] ?_
                      refine QP.pick [0, 1, 5, 6, 7, 8, 11, 80] ?_
                      exact QP.meet ⟨_, Option.some.inj h, rfl, rfl, rfl⟩
                    · replace hc := (Bool.eq_false_iff.1 hc)
                      rw [if_neg hc] at h
                      have hc47 := hc
                      clear hc
                      refine WA.pure [9, 11, 12] [0, 1, 5, 6, 7, 8, 10, 11, 62, 63, 65, 66] (m := 15) (b' := 7167) (L' := [(0, .slice Al0 l0.length cl0), (1, .int .i64 a1), (5, .pointer (some ⟨bR8, 0, none⟩)), (6, .pointer (some ⟨bR16, 0, none⟩)), (7, .pointer (some ⟨b18, 0, none⟩)), (8, .int .i64 y21), (10, .pointer (some ⟨bR8, 0, none⟩)), (11, .pointer (some ⟨b39, 0, none⟩)), (62, .bool false), (63, .pointer (some ⟨bR8, 0, none⟩)), (65, .slice Al0 l0.length cl0), (66, .int .i64 y21)]) (by kernel_rfl) (NoPanic.then (NoPanic.then (NoPanic.block (NoPanic.then (NoPanic.then (NoPanic.block (NoPanic.then (NoPanic.then (NoPanic.body))))))))) Under.refl hS (by kernel_rfl) ?_
                      refine WA.tellD [17] (i := 10) (m := 14) (b' := 8191) (by kernel_rfl) (NoPanic.then (NoPanic.then (NoPanic.block (NoPanic.then (NoPanic.then (NoPanic.block (NoPanic.then (NoPanic.then (NoPanic.body))))))))) Under.refl hS (by kernel_rfl) (op := .load 23 (.tmp 11)) (ty := 23) (d := some 64) (g := some (8, false)) (by kernel_rfl) (by kernel_rfl) (by kernel_rfl) (Tells.load_box (i := 0) (b := b39) (o := 0) (agg := true) (by rfl) ag23 (by kernel_rfl) (fun h => by cases h) (Nat.le_of_ble_eq_true rfl) (v := .agg #[.int .i64 t35.1.f0, .int .i64 t35.1.f1]) (by kernel_rfl)) ?_
                      by_cases hb48 : 0 ≤ y21 ∧ y21 < (l0.length : Int)
                      case neg => rw [if_neg hb48] at h; cases h
                      rw [if_pos hb48] at h
                      refine WA.tellD [17, 16, 15, 14] (i := 13) (m := 13) (b' := 16383) (by kernel_rfl) (NoPanic.then (NoPanic.then (NoPanic.block (NoPanic.then (NoPanic.then (NoPanic.block (NoPanic.then (NoPanic.then (NoPanic.body))))))))) Under.refl hS (by kernel_rfl) (op := .indexAddr 52 (.tmp 65) (.tmp 66)) (ty := 0) (d := some 67) (g := some (8, false)) (by kernel_rfl) (by kernel_rfl) (by kernel_rfl) (Tells.indexAddr (A := Al0) (n := l0.length) (c := cl0) (k := .i64) (j := y21) (by kernel_rfl) (by kernel_rfl) (Hl0.isSome hb48.1 hb48.2) hb48.1 hb48.2 sl52) ?_
                      refine WA.tellDE [17, 16, 15] (i := 14) (m := 12) (b' := 32767) (by kernel_rfl) (NoPanic.then (NoPanic.then (NoPanic.block (NoPanic.then (NoPanic.then (NoPanic.block (NoPanic.then (NoPanic.then (NoPanic.body))))))))) Under.refl hS (by kernel_rfl) (op := .load 3 (.tmp 67)) (ty := 3) (d := some 68) (g := some (8, false)) (by kernel_rfl) (by kernel_rfl) (by kernel_rfl) (Hl0.load (agg := false) hb48.1 hb48.2 0 ag3 (fun _ => rfl) (by kernel_rfl)) ?_
                      rintro _ rfl
                      refine WA.pure [15] [0, 1, 5, 6, 7, 8, 10, 11, 62, 63, 64, 69] (m := 11) (b' := 65535) (L' := [(0, .slice Al0 l0.length cl0), (1, .int .i64 a1), (5, .pointer (some ⟨bR8, 0, none⟩)), (6, .pointer (some ⟨bR16, 0, none⟩)), (7, .pointer (some ⟨b18, 0, none⟩)), (8, .int .i64 y21), (10, .pointer (some ⟨bR8, 0, none⟩)), (11, .pointer (some ⟨b39, 0, none⟩)), (62, .bool false), (63, .pointer (some ⟨bR8, 0, none⟩)), (64, .agg #[.int .i64 t35.1.f0, .int .i64 t35.1.f1]), (69, .int .i64 (IntKind.i64.wrap (Int.tdiv (l0.getD y21.toNat 0) 2)))]) (by kernel_rfl) (NoPanic.then (NoPanic.then (NoPanic.block (NoPanic.then (NoPanic.then (NoPanic.block (NoPanic.then (NoPanic.then (NoPanic.body))))))))) Under.refl hS (by kernel_rfl) ?_
                      rw [Option.bind_eq_some_iff] at h
                      obtain ⟨t49, ht50, h⟩ := h
                      refine WA.op (i := 16) (m := 10) (b' := 131071) (by kernel_rfl) hS (by kernel_rfl) (op := .call { callee := (.value (.func 31)), args := #[(.tmp 69), (.const (.int .i64 1000))], argTypes := #[3, 3] }) (ty := 3) (d := some 70) (g := some (8, false)) (by kernel_rfl) (by kernel_rfl) (by kernel_rfl) (Does.call (f := 31) (args := [.int .i64 (IntKind.i64.wrap (Int.tdiv (l0.getD y21.toNat 0) 2)), .int .i64 1000]) (by kernel_rfl) (fun W hI => (grapevinelaw0_Low_calls (IntKind.i64.wrap (Int.tdiv (l0.getD y21.toNat 0) 2)) 1000  t49 ht50 hI))) ?_
                      rintro _ _ _ ⟨rfl, rfl, rfl⟩
                      refine ⟨_, _, Under.refl, Under.refl, ?_⟩
                      refine WA.front (i := 3) rfl ?_
                      rw [Option.bind_eq_some_iff] at h
                      obtain ⟨t53, ht54, h⟩ := h
                      refine WA.opK (i := 17) (kw' := 27) (m := 9) (b' := 262143) (by kernel_rfl) rfl hS (by kernel_rfl) (op := .call { callee := (.value (.func 27)), args := #[(.tmp 63), (.tmp 64), (.tmp 70)], argTypes := #[30, 23, 3] }) (ty := 41) (d := some 71) (g := some (8, false)) (by kernel_rfl) (by kernel_rfl) (by kernel_rfl) (Does.call (f := 27) (args := [.pointer (some ⟨bR8, 0, none⟩), .agg #[.int .i64 t35.1.f0, .int .i64 t35.1.f1], .int .i64 t49]) (by kernel_rfl) (fun W hI => (stamp_Clock_See_calls k26 y24 t35.1 t49 bR8 t53 ht54 hI))) ?_
                      rintro _ _ _ ⟨rfl, rfl, rfl⟩
                      refine ⟨_, _, Under.refl, ?_⟩
                      refine WA.pure [18, 19, 20] [0, 1, 5, 6, 7, 8, 10, 11, 74] (m := 6) (b' := 2097151) (L' := [(0, .slice Al0 l0.length cl0), (1, .int .i64 a1), (5, .pointer (some ⟨bR8, 0, none⟩)), (6, .pointer (some ⟨bR16, 0, none⟩)), (7, .pointer (some ⟨b18, 0, none⟩)), (8, .int .i64 y21), (10, .pointer (some ⟨bR8, 0, none⟩)), (11, .pointer (some ⟨b39, 0, none⟩)), (74, .bool (t53.1 != 0))]) (by kernel_rfl) (NoPanic.then (NoPanic.then (NoPanic.block (NoPanic.then (NoPanic.then (NoPanic.block (NoPanic.then (NoPanic.then (NoPanic.body))))))))) Under.refl hS (by kernel_rfl) ?_
                      refine WA.split 74 (b := (t53.1 != 0)) (by kernel_rfl) (fun hc => ?_) (fun hc => ?_)
                      · replace hc := (bne_iff_ne.1 hc)
                        rw [if_pos hc] at h
                        have hc57 := hc
                        clear hc
                        refine WA.pure [21, 22, 23, 24, 25, 26] [0, 1, 5, 6, 7, 8, 11, 80] (m := 0) (b' := 134217727) (L' := [(0, .slice Al0 l0.length cl0), (1, .int .i64 a1), (5, .pointer (some ⟨bR8, 0, none⟩)), (6, .pointer (some ⟨bR16, 0, none⟩)), (7, .pointer (some ⟨b18, 0, none⟩)), (8, .int .i64 y21), (11, .pointer (some ⟨b39, 0, none⟩)), (80, .bool true)]) (by kernel_rfl) (NoPanic.then (NoPanic.then (NoPanic.block (NoPanic.then (NoPanic.then (NoPanic.block (NoPanic.then (NoPanic.then (NoPanic.body))))))))) Under.refl hS (by kernel_rfl) ?_
                        refine WA.done hS (by kernel_rfl) ?_
                        refine QP.pick [0, 1, 5, 6, 7, 8, 11, 80] ?_
                        refine QP.front (i := 3) rfl ?_
                        refine QP.front (i := 3) rfl ?_
                        refine QP.front (i := 3) rfl ?_
                        refine QP.pick [0, 1, 5, 6, 7, 8, 11, 80] ?_
                        exact QP.meet ⟨_, Option.some.inj h, rfl, rfl, rfl⟩
                      · replace hc := (not_not_intro (bne_eq_false_iff_eq.1 hc))
                        rw [if_neg hc] at h
                        have hc57 := hc
                        clear hc
                        refine WA.pure [22] [0, 1, 5, 6, 7, 8, 11, 74, 76] (m := 5) (b' := 6291455) (L' := [(0, .slice Al0 l0.length cl0), (1, .int .i64 a1), (5, .pointer (some ⟨bR8, 0, none⟩)), (6, .pointer (some ⟨bR16, 0, none⟩)), (7, .pointer (some ⟨b18, 0, none⟩)), (8, .int .i64 y21), (11, .pointer (some ⟨b39, 0, none⟩)), (74, .bool false), (76, .pointer (some ⟨bR8, 0, none⟩))]) (by kernel_rfl) (NoPanic.then (NoPanic.then (NoPanic.block (NoPanic.then (NoPanic.then (NoPanic.block (NoPanic.then (NoPanic.then (NoPanic.body))))))))) Under.refl hS (by kernel_rfl) ?_
                        refine WA.tellD [] (i := 21) (m := 4) (b' := 8388607) (by kernel_rfl) (NoPanic.then (NoPanic.then (NoPanic.block (NoPanic.then (NoPanic.then (NoPanic.block (NoPanic.then (NoPanic.then (NoPanic.body))))))))) Under.refl hS (by kernel_rfl) (op := .load 23 (.tmp 11)) (ty := 23) (d := some 75) (g := some (20, false)) (by kernel_rfl) (by kernel_rfl) (by kernel_rfl) (Tells.load_box (i := 1) (b := b39) (o := 0) (agg := true) (by rfl) ag23 (by kernel_rfl) (fun h => by cases h) (Nat.le_of_ble_eq_true rfl) (v := .agg #[.int .i64 t35.1.f0, .int .i64 t35.1.f1]) (by kernel_rfl)) ?_
                        rw [Option.bind_eq_some_iff] at h
                        obtain ⟨t58, ht59, h⟩ := h
                        refine WA.op (i := 23) (m := 3) (b' := 16777215) (by kernel_rfl) hS (by kernel_rfl) (op := .call { callee := (.value (.func 25)), args := #[(.tmp 76)], argTypes := #[30] }) (ty := 23) (d := some 77) (g := some (20, false)) (by kernel_rfl) (by kernel_rfl) (by kernel_rfl) (Does.call (f := 25) (args := [.pointer (some ⟨bR8, 0, none⟩)]) (by kernel_rfl) (fun W hI => (stamp_Clock_Last_calls t53.2 bR8 t58 ht59 hI))) ?_
                        rintro _ _ _ ⟨rfl, rfl, rfl⟩
                        refine ⟨_, _, Under.refl, Under.refl, ?_⟩
                        rw [Option.bind_eq_some_iff] at h
                        obtain ⟨t62, ht63, h⟩ := h
                        refine WA.op (i := 24) (m := 2) (b' := 33554431) (by kernel_rfl) hS (by kernel_rfl) (op := .call { callee := (.value (.func 20)), args := #[(.tmp 75), (.tmp 77)], argTypes := #[23, 23] }) (ty := 4) (d := some 78) (g := some (20, false)) (by kernel_rfl) (by kernel_rfl) (by kernel_rfl) (Does.call (f := 20) (args := [.agg #[.int .i64 t35.1.f0, .int .i64 t35.1.f1], .agg #[.int .i64 t58.f0, .int .i64 t58.f1]]) (by kernel_rfl) (fun W hI => (stamp_Less_calls t35.1 t58  t62 ht63 hI))) ?_
                        rintro _ _ _ ⟨rfl, rfl, rfl⟩
                        refine ⟨_, _, Under.refl, Under.refl, ?_⟩
                        refine WA.pure [25, 26] [0, 1, 5, 6, 7, 8, 11, 80] (m := 0) (b' := 134217727) (L' := [(0, .slice Al0 l0.length cl0), (1, .int .i64 a1), (5, .pointer (some ⟨bR8, 0, none⟩)), (6, .pointer (some ⟨bR16, 0, none⟩)), (7, .pointer (some ⟨b18, 0, none⟩)), (8, .int .i64 y21), (11, .pointer (some ⟨b39, 0, none⟩)), (80, .bool (!t62))]) (by kernel_rfl) (NoPanic.then (NoPanic.then (NoPanic.block (NoPanic.then (NoPanic.then (NoPanic.block (NoPanic.then (NoPanic.then (NoPanic.body))))))))) Under.refl hS (by kernel_rfl) ?_
                        refine WA.done hS (by kernel_rfl) ?_
                        refine QP.pick [0, 1, 5, 6, 7, 8, 11, 80] ?_
                        refine QP.front (i := 3) rfl ?_
                        refine QP.front (i := 3) rfl ?_
                        refine QP.front (i := 3) rfl ?_
                        refine QP.pick [0, 1, 5, 6, 7, 8, 11, 80] ?_
                        exact QP.meet ⟨_, Option.some.inj h, rfl, rfl, rfl⟩
                · rintro _ _ _ ⟨s40, rfl, rfl, rfl, rfl⟩
                  clear h
                  replace h := hk41
                  refine WP.cond (b := s40.1) (by kernel_rfl) (fun hc => ?_) (fun hc => ?_)
                  · replace hc := hc
                    rw [if_pos hc] at h
                    have hc66 := hc
                    clear hc
                    refine WP.seqP [4] (L' := [(4, .bool false)]) (by kernel_rfl) ?_
                    refine WP.dropAt 3 ?_
                    refine WP.dropAt 2 ?_
                    refine WP.dropAt 1 ?_
                    refine WP.dropAt 0 ?_
                    refine WP.ret ?_
                    refine QP.thenR ?_
                    refine QP.blockR ?_
                    refine QP.thenR ?_
                    refine QP.thenR ?_
                    refine QP.blockR ?_
                    refine QP.thenR ?_
                    refine QP.thenR ?_
                    obtain rfl := Option.some.inj h
                    obtain rfl := Option.some.inj (show some _ = some _ from hk20)
                    exact QP.returned [4] [.bool false] _ (by kernel_rfl) (by kernel_rfl) (by kernel_rfl) (fun W hI => ⟨_, _, _, rfl, ⟨rfl, rfl, rfl⟩, hI⟩)
                  · replace hc := (Bool.eq_false_iff.1 hc)
                    rw [if_neg hc] at h
                    have hc66 := hc
                    clear hc
                    refine WP.skip ?_
                    refine QP.next ?_
                    refine WP.pick [0, 1, 5, 6, 7, 8, 11] ?_
                    refine WP.region ?_
                    refine WL.tell (op := .load 23 (.tmp 11)) (ty := 23) (d := some 81) (g := none) (by kernel_rfl) (by kernel_rfl) (by kernel_rfl) (Tells.load_box (i := 0) (b := b39) (o := 0) (agg := true) (by rfl) ag23 (by kernel_rfl) (fun h => by cases h) (Nat.le_of_ble_eq_true rfl) (v := .agg #[.int .i64 t35.1.f0, .int .i64 t35.1.f1]) (by kernel_rfl)) ?_
                    refine WL.op (op := .store 23 (.tmp 7) (.tmp 81)) (ty := 0) (d := none) (g := none) (by kernel_rfl) (by kernel_rfl) (by kernel_rfl) (Does.store_box (i := 2) (b := b18) (o := 0) (v := .agg #[.int .i64 t35.1.f0, .int .i64 t35.1.f1]) (by rfl) sz23 (by kernel_rfl) (by kernel_rfl) (by kernel_rfl) (Free.zero _) (Nat.le_of_ble_eq_true rfl) (cells' := #[.int .i64 t35.1.f0, .int .i64 t35.1.f1]) (by kernel_rfl)) ?_
                    rintro _ _ _ ⟨rfl, rfl, rfl⟩
                    refine WL.rest 2 [0, 1, 5, 6, 7, 8] (L' := [(0, .slice Al0 l0.length cl0), (1, .int .i64 a1), (5, .pointer (some ⟨bR8, 0, none⟩)), (6, .pointer (some ⟨bR16, 0, none⟩)), (7, .pointer (some ⟨b18, 0, none⟩)), (8, .int .i64 y21)]) (by kernel_rfl) ?_
                    refine QP.blockN ?_
                    refine QP.next ?_
                    refine WP.pick [0, 1, 5, 6, 7, 8] ?_
                    refine WP.regionP [0, 1, 5, 6, 7, 8] (L' := [(0, .slice Al0 l0.length cl0), (1, .int .i64 a1), (5, .pointer (some ⟨bR8, 0, none⟩)), (6, .pointer (some ⟨bR16, 0, none⟩)), (7, .pointer (some ⟨b18, 0, none⟩)), (8, .int .i64 (IntKind.i64.wrap (y21 + 1)))]) (by kernel_rfl) ?_
                    refine QP.dropAt 0 ?_
                    refine QP.front (i := 2) rfl ?_
                    refine QP.front (i := 1) rfl ?_
                    refine QP.front (i := 2) rfl ?_
                    refine QP.pick [0, 1, 5, 6, 7, 8] ?_
                    exact QP.meet ⟨k26, Nat.lt_succ_self _, (IntKind.i64.wrap (y21 + 1)), t35.1, t35.2.2, s40.2, h, rfl, rfl, rfl⟩
              · replace hc := ne_of_beq_false hc
                rw [if_neg hc] at h
                have hc29 := hc
                clear hc
                refine WP.skip ?_
                refine QP.next ?_
                refine WP.pick [0, 1, 5, 6, 7, 8, 9, 10] ?_
                refine WP.seqR ?_
                refine WL.pure 0 3 [0, 1, 5, 6, 7, 8, 10, 45, 46, 47] (L' := [(0, .slice Al0 l0.length cl0), (1, .int .i64 a1), (5, .pointer (some ⟨bR8, 0, none⟩)), (6, .pointer (some ⟨bR16, 0, none⟩)), (7, .pointer (some ⟨b18, 0, none⟩)), (8, .int .i64 y21), (10, .pointer (some ⟨bR16, 0, none⟩)), (45, .pointer (some ⟨bR8, 0, none⟩)), (46, .slice Al0 l0.length cl0), (47, .int .i64 y21)]) (by kernel_rfl) (by decide) ?_
                by_cases hb67 : 0 ≤ y21 ∧ y21 < (l0.length : Int)
                case neg => rw [if_neg hb67] at h; cases h
                rw [if_pos hb67] at h
                refine WL.tell (op := .indexAddr 52 (.tmp 46) (.tmp 47)) (ty := 0) (d := some 48) (g := none) (by kernel_rfl) (by kernel_rfl) (by kernel_rfl) (Tells.indexAddr (A := Al0) (n := l0.length) (c := cl0) (k := .i64) (j := y21) (by kernel_rfl) (by kernel_rfl) (Hl0.isSome hb67.1 hb67.2) hb67.1 hb67.2 sl52) ?_
                refine WL.tellE (op := .load 3 (.tmp 48)) (ty := 3) (d := some 49) (g := none) (by kernel_rfl) (by kernel_rfl) (by kernel_rfl) (Hl0.load (agg := false) hb67.1 hb67.2 0 ag3 (fun _ => rfl) (by kernel_rfl)) ?_
                rintro _ rfl
                rw [Option.bind_eq_some_iff] at h
                obtain ⟨t68, ht69, h⟩ := h
                refine WL.op (op := .call { callee := (.value (.func 31)), args := #[(.tmp 49), (.const (.int .i64 1000))], argTypes := #[3, 3] }) (ty := 3) (d := some 50) (g := none) (by kernel_rfl) (by kernel_rfl) (by kernel_rfl) (Does.call (f := 31) (args := [.int .i64 (l0.getD y21.toNat 0), .int .i64 1000]) (by kernel_rfl) (fun W hI => (grapevinelaw0_Low_calls (l0.getD y21.toNat 0) 1000  t68 ht69 hI))) ?_
                rintro _ _ _ ⟨rfl, rfl, rfl⟩
                refine WL.front (i := 2) rfl ?_
                rw [Option.bind_eq_some_iff] at h
                obtain ⟨t72, ht73, h⟩ := h
                refine WL.op (op := .call { callee := (.value (.func 29)), args := #[(.tmp 45), (.tmp 50)], argTypes := #[30, 3] }) (ty := 44) (d := some 51) (g := none) (by kernel_rfl) (by kernel_rfl) (by kernel_rfl) (Does.call (f := 29) (args := [.pointer (some ⟨bR8, 0, none⟩), .int .i64 t68]) (by kernel_rfl) (fun W hI => (stamp_Clock_Tick_calls y24 t68 bR8 t72 ht73 hI))) ?_
                rintro _ _ _ ⟨rfl, rfl, rfl⟩
                refine WL.pure 7 10 [0, 1, 5, 6, 7, 8, 10, 52, 53] (L' := [(0, .slice Al0 l0.length cl0), (1, .int .i64 a1), (5, .pointer (some ⟨bR8, 0, none⟩)), (6, .pointer (some ⟨bR16, 0, none⟩)), (7, .pointer (some ⟨b18, 0, none⟩)), (8, .int .i64 y21), (10, .pointer (some ⟨bR16, 0, none⟩)), (52, .agg #[.int .i64 t72.1.f0, .int .i64 t72.1.f1]), (53, .int .i64 t72.2.1)]) (by kernel_rfl) (by decide) ?_
                refine WL.op (op := .alloc 23) (ty := 0) (d := some 11) (g := none) (by kernel_rfl) (by kernel_rfl) (by kernel_rfl) (Does.new (o := .cells #[.int .i64 0, .int .i64 0] 23 (0, 0)) (v := fun r => .pointer (some ⟨r, 0, none⟩)) (fun r => by kernel_rfl)) ?_
                rintro _ _ _ ⟨b76, rfl, rfl, rfl⟩
                refine WL.op (op := .store 23 (.tmp 11) (.tmp 52)) (ty := 0) (d := none) (g := none) (by kernel_rfl) (by kernel_rfl) (by kernel_rfl) (Does.store_box (i := 0) (b := b76) (o := 0) (v := .agg #[.int .i64 t72.1.f0, .int .i64 t72.1.f1]) (by rfl) sz23 (by kernel_rfl) (by kernel_rfl) (by kernel_rfl) (Free.zero _) (Nat.le_of_ble_eq_true rfl) (cells' := #[.int .i64 t72.1.f0, .int .i64 t72.1.f1]) (by kernel_rfl)) ?_
                rintro _ _ _ ⟨rfl, rfl, rfl⟩
                refine WL.restQ 12 [0, 1, 5, 6, 7, 8, 10, 11, 12] (L' := [(0, .slice Al0 l0.length cl0), (1, .int .i64 a1), (5, .pointer (some ⟨bR8, 0, none⟩)), (6, .pointer (some ⟨bR16, 0, none⟩)), (7, .pointer (some ⟨b18, 0, none⟩)), (8, .int .i64 y21), (10, .pointer (some ⟨bR16, 0, none⟩)), (11, .pointer (some ⟨b76, 0, none⟩)), (12, .int .i64 t72.2.1)]) (by kernel_rfl) ?_
                refine WP.seq ?_
                rw [Option.bind_eq_some_iff] at h
                obtain ⟨os77, h, hk78⟩ := h
                refine WP.cut (fun L' G' Γ' => ∃ s77 : Bool × T81, s77 = os77 ∧ L' = [(0, .slice Al0 l0.length cl0), (1, .int .i64 a1), (5, .pointer (some ⟨bR8, 0, none⟩)), (6, .pointer (some ⟨bR16, 0, none⟩)), (7, .pointer (some ⟨b18, 0, none⟩)), (8, .int .i64 y21), (11, .pointer (some ⟨b76, 0, none⟩)), (80, .bool s77.1)] ∧ G = G' ∧ [(b76, .cells #[.int .i64 t72.1.f0, .int .i64 t72.1.f1] 23 (0, 0))] :: [(bR8, .cells #[.int .i64 t72.2.2.f0, .int .i64 t72.2.2.f1] 81 (0, 0))] :: [(b18, .cells #[.int .i64 y22.f0, .int .i64 y22.f1] 23 (0, 0))] :: [(bR16, .cells #[.int .i64 s77.2.f0, .int .i64 s77.2.f1] 81 (0, 0))] :: Γ = Γ') ?_ ?_
                · clear hk78
                  skip
                  refine WP.any (N := 27) (S := [⟨some 54, [12], []⟩, ⟨some 55, [54], [0]⟩, ⟨some 56, [55], [1]⟩, ⟨some 57, [7, 56], [2]⟩, ⟨some 58, [11, 56], [2]⟩, ⟨some 59, [56, 57, 58], [2, 3, 4]⟩, ⟨some 60, [56, 59], [2, 5]⟩, ⟨some 61, [56, 60], [2, 6]⟩, ⟨some 62, [61], [5, 7]⟩, ⟨some 63, [10, 62], [8]⟩, ⟨some 64, [11, 62], [8]⟩, ⟨some 65, [0, 62], [8]⟩, ⟨some 66, [8, 62], [8]⟩, ⟨some 67, [62, 65, 66], [8, 11, 12]⟩, ⟨some 68, [62, 67], [8, 13]⟩, ⟨some 69, [62, 68], [8, 14]⟩, ⟨some 70, [62, 69], [8, 15]⟩, ⟨some 71, [62, 63, 64, 70], [8, 9, 10, 16]⟩, ⟨some 72, [62, 71], [8, 17]⟩, ⟨some 73, [62, 72], [8, 18]⟩, ⟨some 74, [73], [17, 19]⟩, ⟨some 75, [11, 74], [20]⟩, ⟨some 76, [10, 74], [20]⟩, ⟨some 77, [74, 76], [20, 22]⟩, ⟨some 78, [74, 75, 77], [20, 21, 23]⟩, ⟨some 79, [74, 78], [20, 24]⟩, ⟨some 80, [74, 79], [20, 25]⟩]) (kw := 17) (G0 := G) (Γ0 := [(b76, .cells #[.int .i64 t72.1.f0, .int .i64 t72.1.f1] 23 (0, 0))] :: [(bR8, .cells #[.int .i64 t72.2.2.f0, .int .i64 t72.2.2.f1] 81 (0, 0))] :: [(b18, .cells #[.int .i64 y22.f0, .int .i64 y22.f1] 23 (0, 0))] :: [(bR16, .cells #[.int .i64 y23.f0, .int .i64 y23.f1] 81 (0, 0))] :: Γ) mo (by kernel_rfl) (fun hS => ?_)
                  refine WA.pure [0, 1, 2] [0, 1, 5, 6, 7, 8, 10, 11, 56] (m := 24) (b' := 7) (L' := [(0, .slice Al0 l0.length cl0), (1, .int .i64 a1), (5, .pointer (some ⟨bR8, 0, none⟩)), (6, .pointer (some ⟨bR16, 0, none⟩)), (7, .pointer (some ⟨b18, 0, none⟩)), (8, .int .i64 y21), (10, .pointer (some ⟨bR16, 0, none⟩)), (11, .pointer (some ⟨b76, 0, none⟩)), (56, .bool (t72.2.1 != 0))]) (by kernel_rfl) (NoPanic.then (NoPanic.then (NoPanic.block (NoPanic.then (NoPanic.then (NoPanic.block (NoPanic.then (NoPanic.then (NoPanic.body))))))))) Under.refl hS (by kernel_rfl) ?_
                  refine WA.split 56 (b := (t72.2.1 != 0)) (by kernel_rfl) (fun hc => ?_) (fun hc => ?_)
                  · replace hc := (bne_iff_ne.1 hc)
                    rw [if_pos hc] at h
                    have hc79 := hc
                    clear hc
                    refine WA.pure [3, 4, 5, 6, 7, 8, 9, 10, 11, 12, 13, 14, 15, 16] [0, 1, 5, 6, 7, 8, 10, 11, 62, 63, 64, 70] (m := 10) (b' := 131071) (L' := [(0, .slice Al0 l0.length cl0), (1, .int .i64 a1), (5, .pointer (some ⟨bR8, 0, none⟩)), (6, .pointer (some ⟨bR16, 0, none⟩)), (7, .pointer (some ⟨b18, 0, none⟩)), (8, .int .i64 y21), (10, .pointer (some ⟨bR16, 0, none⟩)), (11, .pointer (some ⟨b76, 0, none⟩)), (62, .bool true), (63, undef), (64, undef), (70, undef)]) (by kernel_rfl) (NoPanic.then (NoPanic.then (NoPanic.block (NoPanic.then (NoPanic.then (NoPanic.block (NoPanic.then (NoPanic.then (NoPanic.body))))))))) Under.refl hS (by kernel_rfl) ?_
                    refine WA.free (kw' := 27) (by rw [arr_size]; decide) ?_
                    refine WA.pure [17, 18, 19, 20, 21, 22, 23, 24, 25, 26] [0, 1, 5, 6, 7, 8, 11, 80] (m := 0) (b' := 134217727) (L' := [(0, .slice Al0 l0.length cl0), (1, .int .i64 a1), (5, .pointer (some ⟨bR8, 0, none⟩)), (6, .pointer (some ⟨bR16, 0, none⟩)), (7, .pointer (some ⟨b18, 0, none⟩)), (8, .int .i64 y21), (11, .pointer (some ⟨b76, 0, none⟩)), (80, .bool true)]) (by kernel_rfl) (NoPanic.then (NoPanic.then (NoPanic.block (NoPanic.then (NoPanic.then (NoPanic.block (NoPanic.then (NoPanic.then (NoPanic.body))))))))) Under.refl hS (by kernel_rfl) ?_
                    refine WA.done hS (by kernel_rfl) ?_
                    refine QP.pick [0, 1, 5, 6, 7, 8, 11, 80] ?_
                    refine QP.pick [0, 1, 5, 6, 7, 8, 11, 80] ?_
                    exact QP.meet ⟨_, Option.some.inj h, rfl, rfl, rfl⟩
                  · replace hc := (not_not_intro (bne_eq_false_iff_eq.1 hc))
                    rw [if_neg hc] at h
                    have hc79 := hc
                    clear hc
                    refine WA.tellD [17, 8, 5] (i := 3) (m := 23) (b' := 15) (by kernel_rfl) (NoPanic.then (NoPanic.then (NoPanic.block (NoPanic.then (NoPanic.then (NoPanic.block (NoPanic.then (NoPanic.then (NoPanic.body))))))))) Under.refl hS (by kernel_rfl) (op := .load 23 (.tmp 7)) (ty := 23) (d := some 57) (g := some (2, false)) (by kernel_rfl) (by kernel_rfl) (by kernel_rfl) (Tells.load_box (i := 2) (b := b18) (o := 0) (agg := true) (by rfl) ag23 (by kernel_rfl) (fun h => by cases h) (Nat.le_of_ble_eq_true rfl) (v := .agg #[.int .i64 y22.f0, .int .i64 y22.f1]) (by kernel_rfl)) ?_
                    refine WA.tellD [17, 8, 5] (i := 4) (m := 22) (b' := 31) (by kernel_rfl) (NoPanic.then (NoPanic.then (NoPanic.block (NoPanic.then (NoPanic.then (NoPanic.block (NoPanic.then (NoPanic.then (NoPanic.body))))))))) Under.refl hS (by kernel_rfl) (op := .load 23 (.tmp 11)) (ty := 23) (d := some 58) (g := some (2, false)) (by kernel_rfl) (by kernel_rfl) (by kernel_rfl) (Tells.load_box (i := 0) (b := b76) (o := 0) (agg := true) (by rfl) ag23 (by kernel_rfl) (fun h => by cases h) (Nat.le_of_ble_eq_true rfl) (v := .agg #[.int .i64 t72.1.f0, .int .i64 t72.1.f1]) (by kernel_rfl)) ?_
                    rw [Option.bind_eq_some_iff] at h
                    obtain ⟨t80, ht81, h⟩ := h
                    refine WA.op (i := 5) (m := 21) (b' := 63) (by kernel_rfl) hS (by kernel_rfl) (op := .call { callee := (.value (.func 20)), args := #[(.tmp 57), (.tmp 58)], argTypes := #[23, 23] }) (ty := 4) (d := some 59) (g := some (2, false)) (by kernel_rfl) (by kernel_rfl) (by kernel_rfl) (Does.call (f := 20) (args := [.agg #[.int .i64 y22.f0, .int .i64 y22.f1], .agg #[.int .i64 t72.1.f0, .int .i64 t72.1.f1]]) (by kernel_rfl) (fun W hI => (stamp_Less_calls y22 t72.1  t80 ht81 hI))) ?_
                    rintro _ _ _ ⟨rfl, rfl, rfl⟩
                    refine ⟨_, _, Under.refl, Under.refl, ?_⟩
                    refine WA.pure [6, 7, 8] [0, 1, 5, 6, 7, 8, 10, 11, 62] (m := 18) (b' := 511) (L' := [(0, .slice Al0 l0.length cl0), (1, .int .i64 a1), (5, .pointer (some ⟨bR8, 0, none⟩)), (6, .pointer (some ⟨bR16, 0, none⟩)), (7, .pointer (some ⟨b18, 0, none⟩)), (8, .int .i64 y21), (10, .pointer (some ⟨bR16, 0, none⟩)), (11, .pointer (some ⟨b76, 0, none⟩)), (62, .bool (!t80))]) (by kernel_rfl) (NoPanic.then (NoPanic.then (NoPanic.block (NoPanic.then (NoPanic.then (NoPanic.block (NoPanic.then (NoPanic.then (NoPanic.body))))))))) Under.refl hS (by kernel_rfl) ?_
                    refine WA.split 62 (b := (!t80)) (by kernel_rfl) (fun hc => ?_) (fun hc => ?_)
                    · replace hc := hc
                      rw [if_pos hc] at h
                      have hc84 := hc
                      clear hc
                      refine WA.pure [9, 10, 11, 12, 13, 14, 15, 16] [0, 1, 5, 6, 7, 8, 10, 11, 62, 63, 64, 70] (m := 10) (b' := 131071) (L' := [(0, .slice Al0 l0.length cl0), (1, .int .i64 a1), (5, .pointer (some ⟨bR8, 0, none⟩)), (6, .pointer (some ⟨bR16, 0, none⟩)), (7, .pointer (some ⟨b18, 0, none⟩)), (8, .int .i64 y21), (10, .pointer (some ⟨bR16, 0, none⟩)), (11, .pointer (some ⟨b76, 0, none⟩)), (62, .bool true), (63, undef), (64, undef), (70, undef)]) (by kernel_rfl) (NoPanic.then (NoPanic.then (NoPanic.block (NoPanic.then (NoPanic.then (NoPanic.block (NoPanic.then (NoPanic.then (NoPanic.body))))))))) Under.refl hS (by kernel_rfl) ?_
                      refine WA.free (kw' := 27) (by rw [arr_size]; decide) ?_
                      refine WA.pure [17, 18, 19, 20, 21, 22, 23, 24, 25, 26] [0, 1, 5, 6, 7, 8, 11, 80] (m := 0) (b' := 134217727) (L' := [(0, .slice Al0 l0.length cl0), (1, .int .i64 a1), (5, .pointer (some ⟨bR8, 0, none⟩)), (6, .pointer (some ⟨bR16, 0, none⟩)), (7, .pointer (some ⟨b18, 0, none⟩)), (8, .int .i64 y21), (11, .pointer (some ⟨b76, 0, none⟩)), (80, .bool true)]) (by kernel_rfl) (NoPanic.then (NoPanic.then (NoPanic.block (NoPanic.then (NoPanic.then (NoPanic.block (NoPanic.then (NoPanic.then (NoPanic.body))))))))) Under.refl hS (by kernel_rfl) ?_
                      refine WA.done hS (by kernel_rfl) ?_
                      refine QP.pick [0, 1, 5, 6, 7, 8, 11, 80] ?_
                      refine QP.pick [0, 1, 5, 6, 7, 8, 11, 80] ?_
                      exact QP.meet ⟨_, Option.some.inj h, rfl, rfl, rfl⟩
                    · replace hc := (Bool.eq_false_iff.1 hc)
                      rw [if_neg hc] at h
                      have hc84 := hc
                      clear hc
                      refine WA.pure [9, 11, 12] [0, 1, 5, 6, 7, 8, 10, 11, 62, 63, 65, 66] (m := 15) (b' := 7167) (L' := [(0, .slice Al0 l0.length cl0), (1, .int .i64 a1), (5, .pointer (some ⟨bR8, 0, none⟩)), (6, .pointer (some ⟨bR16, 0, none⟩)), (7, .pointer (some ⟨b18, 0, none⟩)), (8, .int .i64 y21), (10, .pointer (some ⟨bR16, 0, none⟩)), (11, .pointer (some ⟨b76, 0, none⟩)), (62, .bool false), (63, .pointer (some ⟨bR16, 0, none⟩)), (65, .slice Al0 l0.length cl0), (66, .int .i64 y21)]) (by kernel_rfl) (NoPanic.then (NoPanic.then (NoPanic.block (NoPanic.then (NoPanic.then (NoPanic.block (NoPanic.then (NoPanic.then (NoPanic.body))))))))) Under.refl hS (by kernel_rfl) ?_
                      refine WA.tellD [17] (i := 10) (m := 14) (b' := 8191) (by kernel_rfl) (NoPanic.then (NoPanic.then (NoPanic.block (NoPanic.then (NoPanic.then (NoPanic.block (NoPanic.then (NoPanic.then (NoPanic.body))))))))) Under.refl hS (by kernel_rfl) (op := .load 23 (.tmp 11)) (ty := 23) (d := some 64) (g := some (8, false)) (by kernel_rfl) (by kernel_rfl) (by kernel_rfl) (Tells.load_box (i := 0) (b := b76) (o := 0) (agg := true) (by rfl) ag23 (by kernel_rfl) (fun h => by cases h) (Nat.le_of_ble_eq_true rfl) (v := .agg #[.int .i64 t72.1.f0, .int .i64 t72.1.f1]) (by kernel_rfl)) ?_
                      by_cases hb85 : 0 ≤ y21 ∧ y21 < (l0.length : Int)
                      case neg => rw [if_neg hb85] at h; cases h
                      rw [if_pos hb85] at h
                      refine WA.tellD [17, 16, 15, 14] (i := 13) (m := 13) (b' := 16383) (by kernel_rfl) (NoPanic.then (NoPanic.then (NoPanic.block (NoPanic.then (NoPanic.then (NoPanic.block (NoPanic.then (NoPanic.then (NoPanic.body))))))))) Under.refl hS (by kernel_rfl) (op := .indexAddr 52 (.tmp 65) (.tmp 66)) (ty := 0) (d := some 67) (g := some (8, false)) (by kernel_rfl) (by kernel_rfl) (by kernel_rfl) (Tells.indexAddr (A := Al0) (n := l0.length) (c := cl0) (k := .i64) (j := y21) (by kernel_rfl) (by kernel_rfl) (Hl0.isSome hb85.1 hb85.2) hb85.1 hb85.2 sl52) ?_
                      refine WA.tellDE [17, 16, 15] (i := 14) (m := 12) (b' := 32767) (by kernel_rfl) (NoPanic.then (NoPanic.then (NoPanic.block (NoPanic.then (NoPanic.then (NoPanic.block (NoPanic.then (NoPanic.then (NoPanic.body))))))))) Under.refl hS (by kernel_rfl) (op := .load 3 (.tmp 67)) (ty := 3) (d := some 68) (g := some (8, false)) (by kernel_rfl) (by kernel_rfl) (by kernel_rfl) (Hl0.load (agg := false) hb85.1 hb85.2 0 ag3 (fun _ => rfl) (by kernel_rfl)) ?_
                      rintro _ rfl
                      refine WA.pure [15] [0, 1, 5, 6, 7, 8, 10, 11, 62, 63, 64, 69] (m := 11) (b' := 65535) (L' := [(0, .slice Al0 l0.length cl0), (1, .int .i64 a1), (5, .pointer (some ⟨bR8, 0, none⟩)), (6, .pointer (some ⟨bR16, 0, none⟩)), (7, .pointer (some ⟨b18, 0, none⟩)), (8, .int .i64 y21), (10, .pointer (some ⟨bR16, 0, none⟩)), (11, .pointer (some ⟨b76, 0, none⟩)), (62, .bool false), (63, .pointer (some ⟨bR16, 0, none⟩)), (64, .agg #[.int .i64 t72.1.f0, .int .i64 t72.1.f1]), (69, .int .i64 (IntKind.i64.wrap (Int.tdiv (l0.getD y21.toNat 0) 2)))]) (by kernel_rfl) (NoPanic.then (NoPanic.then (NoPanic.block (NoPanic.then (NoPanic.then (NoPanic.block (NoPanic.then (NoPanic.then (NoPanic.body))))))))) Under.refl hS (by kernel_rfl) ?_
                      rw [Option.bind_eq_some_iff] at h
                      obtain ⟨t86, ht87, h⟩ := h
                      refine WA.op (i := 16) (m := 10) (b' := 131071) (by kernel_rfl) hS (by kernel_rfl) (op := .call { callee := (.value (.func 31)), args := #[(.tmp 69), (.const (.int .i64 1000))], argTypes := #[3, 3] }) (ty := 3) (d := some 70) (g := some (8, false)) (by kernel_rfl) (by kernel_rfl) (by kernel_rfl) (Does.call (f := 31) (args := [.int .i64 (IntKind.i64.wrap (Int.tdiv (l0.getD y21.toNat 0) 2)), .int .i64 1000]) (by kernel_rfl) (fun W hI => (grapevinelaw0_Low_calls (IntKind.i64.wrap (Int.tdiv (l0.getD y21.toNat 0) 2)) 1000  t86 ht87 hI))) ?_
                      rintro _ _ _ ⟨rfl, rfl, rfl⟩
                      refine ⟨_, _, Under.refl, Under.refl, ?_⟩
                      refine WA.front (i := 3) rfl ?_
                      rw [Option.bind_eq_some_iff] at h
                      obtain ⟨t90, ht91, h⟩ := h
                      refine WA.opK (i := 17) (kw' := 27) (m := 9) (b' := 262143) (by kernel_rfl) rfl hS (by kernel_rfl) (op := .call { callee := (.value (.func 27)), args := #[(.tmp 63), (.tmp 64), (.tmp 70)], argTypes := #[30, 23, 3] }) (ty := 41) (d := some 71) (g := some (8, false)) (by kernel_rfl) (by kernel_rfl) (by kernel_rfl) (Does.call (f := 27) (args := [.pointer (some ⟨bR16, 0, none⟩), .agg #[.int .i64 t72.1.f0, .int .i64 t72.1.f1], .int .i64 t86]) (by kernel_rfl) (fun W hI => (stamp_Clock_See_calls k26 y23 t72.1 t86 bR16 t90 ht91 hI))) ?_
                      rintro _ _ _ ⟨rfl, rfl, rfl⟩
                      refine ⟨_, _, Under.refl, ?_⟩
                      refine WA.pure [18, 19, 20] [0, 1, 5, 6, 7, 8, 10, 11, 74] (m := 6) (b' := 2097151) (L' := [(0, .slice Al0 l0.length cl0), (1, .int .i64 a1), (5, .pointer (some ⟨bR8, 0, none⟩)), (6, .pointer (some ⟨bR16, 0, none⟩)), (7, .pointer (some ⟨b18, 0, none⟩)), (8, .int .i64 y21), (10, .pointer (some ⟨bR16, 0, none⟩)), (11, .pointer (some ⟨b76, 0, none⟩)), (74, .bool (t90.1 != 0))]) (by kernel_rfl) (NoPanic.then (NoPanic.then (NoPanic.block (NoPanic.then (NoPanic.then (NoPanic.block (NoPanic.then (NoPanic.then (NoPanic.body))))))))) Under.refl hS (by kernel_rfl) ?_
                      refine WA.split 74 (b := (t90.1 != 0)) (by kernel_rfl) (fun hc => ?_) (fun hc => ?_)
                      · replace hc := (bne_iff_ne.1 hc)
                        rw [if_pos hc] at h
                        have hc94 := hc
                        clear hc
                        refine WA.pure [21, 22, 23, 24, 25, 26] [0, 1, 5, 6, 7, 8, 11, 80] (m := 0) (b' := 134217727) (L' := [(0, .slice Al0 l0.length cl0), (1, .int .i64 a1), (5, .pointer (some ⟨bR8, 0, none⟩)), (6, .pointer (some ⟨bR16, 0, none⟩)), (7, .pointer (some ⟨b18, 0, none⟩)), (8, .int .i64 y21), (11, .pointer (some ⟨b76, 0, none⟩)), (80, .bool true)]) (by kernel_rfl) (NoPanic.then (NoPanic.then (NoPanic.block (NoPanic.then (NoPanic.then (NoPanic.block (NoPanic.then (NoPanic.then (NoPanic.body))))))))) Under.refl hS (by kernel_rfl) ?_
                        refine WA.done hS (by kernel_rfl) ?_
                        refine QP.pick [0, 1, 5, 6, 7, 8, 11, 80] ?_
                        refine QP.front (i := 3) rfl ?_
                        refine QP.front (i := 3) rfl ?_
                        refine QP.front (i := 3) rfl ?_
                        refine QP.pick [0, 1, 5, 6, 7, 8, 11, 80] ?_
                        exact QP.meet ⟨_, Option.some.inj h, rfl, rfl, rfl⟩
                      · replace hc := (not_not_intro (bne_eq_false_iff_eq.1 hc))
                        rw [if_neg hc] at h
                        have hc94 := hc
                        clear hc
                        refine WA.pure [22] [0, 1, 5, 6, 7, 8, 11, 74, 76] (m := 5) (b' := 6291455) (L' := [(0, .slice Al0 l0.length cl0), (1, .int .i64 a1), (5, .pointer (some ⟨bR8, 0, none⟩)), (6, .pointer (some ⟨bR16, 0, none⟩)), (7, .pointer (some ⟨b18, 0, none⟩)), (8, .int .i64 y21), (11, .pointer (some ⟨b76, 0, none⟩)), (74, .bool false), (76, .pointer (some ⟨bR16, 0, none⟩))]) (by kernel_rfl) (NoPanic.then (NoPanic.then (NoPanic.block (NoPanic.then (NoPanic.then (NoPanic.block (NoPanic.then (NoPanic.then (NoPanic.body))))))))) Under.refl hS (by kernel_rfl) ?_
                        refine WA.tellD [] (i := 21) (m := 4) (b' := 8388607) (by kernel_rfl) (NoPanic.then (NoPanic.then (NoPanic.block (NoPanic.then (NoPanic.then (NoPanic.block (NoPanic.then (NoPanic.then (NoPanic.body))))))))) Under.refl hS (by kernel_rfl) (op := .load 23 (.tmp 11)) (ty := 23) (d := some 75) (g := some (20, false)) (by kernel_rfl) (by kernel_rfl) (by kernel_rfl) (Tells.load_box (i := 1) (b := b76) (o := 0) (agg := true) (by rfl) ag23 (by kernel_rfl) (fun h => by cases h) (Nat.le_of_ble_eq_true rfl) (v := .agg #[.int .i64 t72.1.f0, .int .i64 t72.1.f1]) (by kernel_rfl)) ?_
                        rw [Option.bind_eq_some_iff] at h
                        obtain ⟨t95, ht96, h⟩ := h
                        refine WA.op (i := 23) (m := 3) (b' := 16777215) (by kernel_rfl) hS (by kernel_rfl) (op := .call { callee := (.value (.func 25)), args := #[(.tmp 76)], argTypes := #[30] }) (ty := 23) (d := some 77) (g := some (20, false)) (by kernel_rfl) (by kernel_rfl) (by kernel_rfl) (Does.call (f := 25) (args := [.pointer (some ⟨bR16, 0, none⟩)]) (by kernel_rfl) (fun W hI => (stamp_Clock_Last_calls t90.2 bR16 t95 ht96 hI))) ?_
                        rintro _ _ _ ⟨rfl, rfl, rfl⟩
                        refine ⟨_, _, Under.refl, Under.refl, ?_⟩
                        rw [Option.bind_eq_some_iff] at h
                        obtain ⟨t99, ht100, h⟩ := h
                        refine WA.op (i := 24) (m := 2) (b' := 33554431) (by kernel_rfl) hS (by kernel_rfl) (op := .call { callee := (.value (.func 20)), args := #[(.tmp 75), (.tmp 77)], argTypes := #[23, 23] }) (ty := 4) (d := some 78) (g := some (20, false)) (by kernel_rfl) (by kernel_rfl) (by kernel_rfl) (Does.call (f := 20) (args := [.agg #[.int .i64 t72.1.f0, .int .i64 t72.1.f1], .agg #[.int .i64 t95.f0, .int .i64 t95.f1]]) (by kernel_rfl) (fun W hI => (stamp_Less_calls t72.1 t95  t99 ht100 hI))) ?_
                        rintro _ _ _ ⟨rfl, rfl, rfl⟩
                        refine ⟨_, _, Under.refl, Under.refl, ?_⟩
                        refine WA.pure [25, 26] [0, 1, 5, 6, 7, 8, 11, 80] (m := 0) (b' := 134217727) (L' := [(0, .slice Al0 l0.length cl0), (1, .int .i64 a1), (5, .pointer (some ⟨bR8, 0, none⟩)), (6, .pointer (some ⟨bR16, 0, none⟩)), (7, .pointer (some ⟨b18, 0, none⟩)), (8, .int .i64 y21), (11, .pointer (some ⟨b76, 0, none⟩)), (80, .bool (!t99))]) (by kernel_rfl) (NoPanic.then (NoPanic.then (NoPanic.block (NoPanic.then (NoPanic.then (NoPanic.block (NoPanic.then (NoPanic.then (NoPanic.body))))))))) Under.refl hS (by kernel_rfl) ?_
                        refine WA.done hS (by kernel_rfl) ?_
                        refine QP.pick [0, 1, 5, 6, 7, 8, 11, 80] ?_
                        refine QP.front (i := 3) rfl ?_
                        refine QP.front (i := 3) rfl ?_
                        refine QP.front (i := 3) rfl ?_
                        refine QP.pick [0, 1, 5, 6, 7, 8, 11, 80] ?_
                        exact QP.meet ⟨_, Option.some.inj h, rfl, rfl, rfl⟩
                · rintro _ _ _ ⟨s77, rfl, rfl, rfl, rfl⟩
                  clear h
                  replace h := hk78
                  refine WP.cond (b := s77.1) (by kernel_rfl) (fun hc => ?_) (fun hc => ?_)
                  · replace hc := hc
                    rw [if_pos hc] at h
                    have hc103 := hc
                    clear hc
                    refine WP.seqP [4] (L' := [(4, .bool false)]) (by kernel_rfl) ?_
                    refine WP.dropAt 3 ?_
                    refine WP.dropAt 2 ?_
                    refine WP.dropAt 1 ?_
                    refine WP.dropAt 0 ?_
                    refine WP.ret ?_
                    refine QP.thenR ?_
                    refine QP.blockR ?_
                    refine QP.thenR ?_
                    refine QP.thenR ?_
                    refine QP.blockR ?_
                    refine QP.thenR ?_
                    refine QP.thenR ?_
                    obtain rfl := Option.some.inj h
                    obtain rfl := Option.some.inj (show some _ = some _ from hk20)
                    exact QP.returned [4] [.bool false] _ (by kernel_rfl) (by kernel_rfl) (by kernel_rfl) (fun W hI => ⟨_, _, _, rfl, ⟨rfl, rfl, rfl⟩, hI⟩)
                  · replace hc := (Bool.eq_false_iff.1 hc)
                    rw [if_neg hc] at h
                    have hc103 := hc
                    clear hc
                    refine WP.skip ?_
                    refine QP.next ?_
                    refine WP.pick [0, 1, 5, 6, 7, 8, 11] ?_
                    refine WP.region ?_
                    refine WL.tell (op := .load 23 (.tmp 11)) (ty := 23) (d := some 81) (g := none) (by kernel_rfl) (by kernel_rfl) (by kernel_rfl) (Tells.load_box (i := 0) (b := b76) (o := 0) (agg := true) (by rfl) ag23 (by kernel_rfl) (fun h => by cases h) (Nat.le_of_ble_eq_true rfl) (v := .agg #[.int .i64 t72.1.f0, .int .i64 t72.1.f1]) (by kernel_rfl)) ?_
                    refine WL.op (op := .store 23 (.tmp 7) (.tmp 81)) (ty := 0) (d := none) (g := none) (by kernel_rfl) (by kernel_rfl) (by kernel_rfl) (Does.store_box (i := 2) (b := b18) (o := 0) (v := .agg #[.int .i64 t72.1.f0, .int .i64 t72.1.f1]) (by rfl) sz23 (by kernel_rfl) (by kernel_rfl) (by kernel_rfl) (Free.zero _) (Nat.le_of_ble_eq_true rfl) (cells' := #[.int .i64 t72.1.f0, .int .i64 t72.1.f1]) (by kernel_rfl)) ?_
                    rintro _ _ _ ⟨rfl, rfl, rfl⟩
                    refine WL.rest 2 [0, 1, 5, 6, 7, 8] (L' := [(0, .slice Al0 l0.length cl0), (1, .int .i64 a1), (5, .pointer (some ⟨bR8, 0, none⟩)), (6, .pointer (some ⟨bR16, 0, none⟩)), (7, .pointer (some ⟨b18, 0, none⟩)), (8, .int .i64 y21)]) (by kernel_rfl) ?_
                    refine QP.blockN ?_
                    refine QP.next ?_
                    refine WP.pick [0, 1, 5, 6, 7, 8] ?_
                    refine WP.regionP [0, 1, 5, 6, 7, 8] (L' := [(0, .slice Al0 l0.length cl0), (1, .int .i64 a1), (5, .pointer (some ⟨bR8, 0, none⟩)), (6, .pointer (some ⟨bR16, 0, none⟩)), (7, .pointer (some ⟨b18, 0, none⟩)), (8, .int .i64 (IntKind.i64.wrap (y21 + 1)))]) (by kernel_rfl) ?_
                    refine QP.dropAt 0 ?_
                    refine QP.front (i := 2) rfl ?_
                    refine QP.front (i := 2) rfl ?_
                    refine QP.pick [0, 1, 5, 6, 7, 8] ?_
                    exact QP.meet ⟨k26, Nat.lt_succ_self _, (IntKind.i64.wrap (y21 + 1)), t72.1, s77.2, t72.2.2, h, rfl, rfl, rfl⟩
            · replace hc := of_decide_eq_false hc
              rw [if_neg hc] at h
              have hc27 := hc
              clear hc
              refine WP.exit ?_
              refine QP.thenE ?_
              refine QP.thenE ?_
              refine QP.blockE ?_
              refine QP.pick [] ?_
              exact QP.meet ⟨_, Option.some.inj h, rfl, rfl, rfl⟩
        · rintro _ _ _ ⟨s19, rfl, rfl, rfl, rfl⟩
          clear h
          replace h := hk20
          refine QP.next ?_
          refine WP.pick [] ?_
          refine WP.seqR ?_
          rw [Option.bind_eq_some_iff] at h
          obtain ⟨t104, ht105, h⟩ := h
          refine WL.op (op := .call { callee := (.value (.func 17)), args := #[], argTypes := #[] }) (ty := 4) (d := some 82) (g := none) (by kernel_rfl) (by kernel_rfl) (by kernel_rfl) (Does.call (f := 17) (args := []) (by kernel_rfl) (fun W hI => (grapevinelaw2_awake_calls k   t104 ht105 hI))) ?_
          rintro _ _ _ ⟨rfl, rfl, rfl⟩
          refine WL.restQ 1 [4] (L' := [(4, .bool t104)]) (by kernel_rfl) ?_
          refine WP.dropAt 2 ?_
          refine WP.dropAt 1 ?_
          refine WP.dropAt 0 ?_
          refine WP.ret ?_
          obtain rfl := Option.some.inj h
          exact QP.returned [4] [.bool t104] _ (by kernel_rfl) (by kernel_rfl) (by kernel_rfl) (fun W hI => ⟨_, _, _, rfl, ⟨rfl, rfl, rfl⟩, hI⟩)
/-- The plain law. -/
def StampTwo_Pure : Prop := ∀ (l0 : List Int) (a1 : Int), (l0.length ≤ maxLen ∧ ∀ z0 ∈ l0, (Lit.int .i64 z0).wf = true) → (Lit.int .i64 a1).wf = true → ∃ k, grapevinelaw2_StampTwo k l0 a1 = some true
end Go.Proofs.Ytmphcmgbognmnaa.Gf
