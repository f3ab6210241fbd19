/- Walks of Go functions: what each tells, as a plain Lean function, and that the Go code comes to it. Written by gg.py of this repo. -/
import Derived.Test.YtajhihpaccggdaaDoorT
import Derived.Test.YtajhihpaccggdaaDoorF2
import Derived.Test.YtajhihpaccggdaaDoorF3
namespace Go.Proofs.YtajhihpaccggdaaDoor.Gf
open Go Go.Gg
set_option maxRecDepth 100000
set_option linter.unusedVariables false
set_option linter.unusedSimpArgs false

/-! ### grapevine/grapevineref12.span: function 84 -/
def grapevineref12_span_l0 : Nat → Int → Int → Option Int
  | 0, _, _ => none
  | k + 1, y3, y4 => (if y4 < 5 then grapevineref12_span_l0 k (IntKind.i64.wrap (y3 * 4)) (IntKind.i64.wrap (y4 + 1)) else some y3)
def grapevineref12_span (k : Nat) (a0 : Int) : Option Int := ((grapevineref12_span_l0 k 1 a0).bind fun s1 => some s1)
set_option maxHeartbeats 4000000 in
theorem grapevineref12_span_calls {B : World} {G : GMap} {Γ : List Chunk} {W : World} (k : Nat) (a0 : Int) (r : Int) (h : grapevineref12_span k a0 = some r) (hI : Inv B G (Γ) W) :
    Calls Tryd.prog 84 [.int .i64 a0].toArray W (Ret B (fun v G' Γ' => v = .int .i64 r ∧ G = G' ∧ Γ = Γ')) := by
  refine calls_WP (Γ := Γ) (G := G) (B := B) Tryd.func84 rfl (by kernel_rfl) ?_ hI
  clear hI
  unfold grapevineref12_span at h
  refine WP.seqP [0] (L' := [(0, .int .i64 a0)]) (by kernel_rfl) ?_
  refine WP.seqP [0, 3] (L' := [(0, .int .i64 a0), (3, .int .i64 1)]) (by kernel_rfl) ?_
  refine WP.seq ?_
  refine WP.seqP [3, 4] (L' := [(3, .int .i64 1), (4, .int .i64 a0)]) (by kernel_rfl) ?_
  rw [Option.bind_eq_some_iff] at h
  obtain ⟨os1, h, hk2⟩ := h
  refine WP.cutQ (fun L' G' Γ' => ∃ s1 : Int, s1 = os1 ∧ L' = [(3, .int .i64 s1)] ∧ G = G' ∧ Γ = Γ') ?_ ?_
  · clear hk2
    refine WP.block ?_
    refine WP.pick [3, 4] ?_
    refine WP.loopF (fun kn5 L' G' Γ' => ∃ (y3 : Int), ∃ (y4 : Int), grapevineref12_span_l0 kn5 y3 y4 = some os1 ∧ L' = [(3, .int .i64 y3), (4, .int .i64 y4)] ∧ G = G' ∧ Γ = Γ') ?_ k ⟨1, a0, h, rfl, rfl, rfl⟩
    clear h
    rintro kn6 _ _ _ ⟨y3, y4, h, rfl, rfl, rfl⟩
    cases kn6 with
    | zero => exact absurd h (by simp [grapevineref12_span_l0])
    | succ kn6 =>
      simp only [grapevineref12_span_l0] at h
      refine WP.seq ?_
      refine WP.seqP [3, 4, 7] (L' := [(3, .int .i64 y3), (4, .int .i64 y4), (7, .bool (decide (y4 < 5)))]) (by kernel_rfl) ?_
      refine WP.cond (b := decide (y4 < 5)) (by kernel_rfl) (fun hc => ?_) (fun hc => ?_)
      · replace hc := of_decide_eq_true hc
        rw [if_pos hc] at h
        have hc7 := hc
        clear hc
        refine WP.skip ?_
        refine QP.next ?_
        refine WP.pick [3, 4] ?_
        refine WP.seq ?_
        refine WP.block ?_
        refine WP.regionP [3, 4] (L' := [(3, .int .i64 (IntKind.i64.wrap (y3 * 4))), (4, .int .i64 y4)]) (by kernel_rfl) ?_
        refine QP.blockN ?_
        refine QP.next ?_
        refine WP.pick [3, 4] ?_
        refine WP.regionP [3, 4] (L' := [(3, .int .i64 (IntKind.i64.wrap (y3 * 4))), (4, .int .i64 (IntKind.i64.wrap (y4 + 1)))]) (by kernel_rfl) ?_
        refine QP.pick [3, 4] ?_
        exact QP.meet ⟨kn6, Nat.lt_succ_self _, (IntKind.i64.wrap (y3 * 4)), (IntKind.i64.wrap (y4 + 1)), h, rfl, rfl, rfl⟩
      · replace hc := of_decide_eq_false hc
        rw [if_neg hc] at h
        have hc7 := hc
        clear hc
        refine WP.exit ?_
        refine QP.thenE ?_
        refine QP.thenE ?_
        refine QP.blockE ?_
        refine QP.pick [3] ?_
        exact QP.meet ⟨_, Option.some.inj h, rfl, rfl, rfl⟩
  · rintro _ _ _ ⟨s1, rfl, rfl, rfl, rfl⟩
    clear h
    replace h := hk2
    refine QP.next ?_
    refine WP.pick [3] ?_
    refine WP.seqP [2] (L' := [(2, .int .i64 s1)]) (by kernel_rfl) ?_
    refine WP.ret ?_
    obtain rfl := Option.some.inj h
    exact QP.returned [2] [.int .i64 s1] _ (by kernel_rfl) (by kernel_rfl) (by kernel_rfl) (fun W hI => ⟨_, _, _, rfl, ⟨rfl, rfl, rfl⟩, hI⟩)

/-! ### grapevine/grapevineref12.There: function 61 -/
def grapevineref12_There (k : Nat) (a0 : Int) (a1 : Int) (a2 : Int) : Option Bool := ((if a0 ≥ 0 then (if a0 < 8 then (if a1 ≥ 0 then (if a1 ≤ 5 then (if a2 ≥ 0 then ((grapevineref12_span k 0).bind fun t8 => ((grapevineref12_span k a1).bind fun t12 => (if ¬ t12 = 0 then some (decide (a2 < (IntKind.i64.wrap (Int.tdiv t8 t12)))) else none))) else some false) else some false) else some false) else some false) else some false).bind fun s1 => some s1)
set_option maxHeartbeats 4000000 in
theorem grapevineref12_There_calls {B : World} {G : GMap} {Γ : List Chunk} {W : World} (k : Nat) (a0 : Int) (a1 : Int) (a2 : Int) (r : Bool) (h : grapevineref12_There k a0 a1 a2 = some r) (hI : Inv B G (Γ) W) :
    Calls Tryd.prog 61 [.int .i64 a0, .int .i64 a1, .int .i64 a2].toArray W (Ret B (fun v G' Γ' => v = .bool r ∧ G = G' ∧ Γ = Γ')) := by
  refine calls_WP (Γ := Γ) (G := G) (B := B) Tryd.func61 rfl (by kernel_rfl) ?_ hI
  clear hI
  unfold grapevineref12_There at h
  refine WP.seqP [0, 1, 2] (L' := [(0, .int .i64 a0), (1, .int .i64 a1), (2, .int .i64 a2)]) (by kernel_rfl) ?_
  rw [Option.bind_eq_some_iff] at h
  obtain ⟨os1, h, hk2⟩ := h
  refine WP.cut (fun L' G' Γ' => ∃ s1 : Bool, s1 = os1 ∧ L' = [(6, .bool s1)] ∧ G = G' ∧ Γ = Γ') ?_ ?_
  · clear hk2
    refine WP.region ?_
    refine WL.pure 0 3 [0, 1, 2, 9] (L' := [(0, .int .i64 a0), (1, .int .i64 a1), (2, .int .i64 a2), (9, .bool (decide (a0 ≥ 0)))]) (by kernel_rfl) (by decide) ?_
    refine WL.split 9 (b := decide (a0 ≥ 0)) (by kernel_rfl) (fun hc => ?_) (fun hc => ?_)
    · replace hc := of_decide_eq_true hc
      rw [if_pos hc] at h
      have hc3 := hc
      clear hc
      refine WL.pure 3 7 [1, 2, 13] (L' := [(1, .int .i64 a1), (2, .int .i64 a2), (13, .bool (decide (a0 < 8)))]) (by kernel_rfl) (by decide) ?_
      refine WL.split 13 (b := decide (a0 < 8)) (by kernel_rfl) (fun hc => ?_) (fun hc => ?_)
      · replace hc := of_decide_eq_true hc
        rw [if_pos hc] at h
        have hc4 := hc
        clear hc
        refine WL.pure 7 11 [1, 2, 17] (L' := [(1, .int .i64 a1), (2, .int .i64 a2), (17, .bool (decide (a1 ≥ 0)))]) (by kernel_rfl) (by decide) ?_
        refine WL.split 17 (b := decide (a1 ≥ 0)) (by kernel_rfl) (fun hc => ?_) (fun hc => ?_)
        · replace hc := of_decide_eq_true hc
          rw [if_pos hc] at h
          have hc5 := hc
          clear hc
          refine WL.pure 11 15 [1, 2, 21] (L' := [(1, .int .i64 a1), (2, .int .i64 a2), (21, .bool (decide (a1 ≤ 5)))]) (by kernel_rfl) (by decide) ?_
          refine WL.split 21 (b := decide (a1 ≤ 5)) (by kernel_rfl) (fun hc => ?_) (fun hc => ?_)
          · replace hc := of_decide_eq_true hc
            rw [if_pos hc] at h
            have hc6 := hc
            clear hc
            refine WL.pure 15 19 [1, 2, 25] (L' := [(1, .int .i64 a1), (2, .int .i64 a2), (25, .bool (decide (a2 ≥ 0)))]) (by kernel_rfl) (by decide) ?_
            refine WL.split 25 (b := decide (a2 ≥ 0)) (by kernel_rfl) (fun hc => ?_) (fun hc => ?_)
            · replace hc := of_decide_eq_true hc
              rw [if_pos hc] at h
              have hc7 := hc
              clear hc
              refine WL.pure 19 20 [1, 25, 26] (L' := [(1, .int .i64 a1), (25, .bool true), (26, .int .i64 a2)]) (by kernel_rfl) (by decide) ?_
              rw [Option.bind_eq_some_iff] at h
              obtain ⟨t8, ht9, h⟩ := h
              refine WL.op (op := .call { callee := (.value (.func 84)), args := #[(.const (.int .i64 0))], argTypes := #[3] }) (ty := 3) (d := some 27) (g := some (18, true)) (by kernel_rfl) (by kernel_rfl) (by kernel_rfl) (Does.call (f := 84) (args := [.int .i64 0]) (by kernel_rfl) (fun W hI => (grapevineref12_span_calls k 0  t8 ht9 hI))) ?_
              rintro _ _ _ ⟨rfl, rfl, rfl⟩
              refine WL.pure 21 22 [25, 26, 27, 28] (L' := [(25, .bool true), (26, .int .i64 a2), (27, .int .i64 t8), (28, .int .i64 a1)]) (by kernel_rfl) (by decide) ?_
              rw [Option.bind_eq_some_iff] at h
              obtain ⟨t12, ht13, h⟩ := h
              refine WL.op (op := .call { callee := (.value (.func 84)), args := #[(.tmp 28)], argTypes := #[3] }) (ty := 3) (d := some 29) (g := some (18, true)) (by kernel_rfl) (by kernel_rfl) (by kernel_rfl) (Does.call (f := 84) (args := [.int .i64 a1]) (by kernel_rfl) (fun W hI => (grapevineref12_span_calls k a1  t12 ht13 hI))) ?_
              rintro _ _ _ ⟨rfl, rfl, rfl⟩
              by_cases hb16 : ¬ t12 = 0
              case neg => rw [if_neg hb16] at h; cases h
              rw [if_pos hb16] at h
              refine WL.tell (op := .binOp .quo 3 (.tmp 27) (.tmp 29) 3) (ty := 3) (d := some 30) (g := some (18, true)) (by kernel_rfl) (by kernel_rfl) (by kernel_rfl) (Tells.quo (k := .i64) (a := t8) (b := t12) (by kernel_rfl) (by kernel_rfl) hb16) ?_
              refine WL.rest 24 [6] (L' := [(6, .bool (decide (a2 < (IntKind.i64.wrap (Int.tdiv t8 t12)))))]) (by kernel_rfl) ?_
              refine QP.pick [6] ?_
              exact QP.meet ⟨_, Option.some.inj h, rfl, rfl, rfl⟩
            · replace hc := of_decide_eq_false hc
              rw [if_neg hc] at h
              have hc7 := hc
              clear hc
              refine WL.rest 19 [6] (L' := [(6, .bool false)]) (by kernel_rfl) ?_
              refine QP.pick [6] ?_
              exact QP.meet ⟨_, Option.some.inj h, rfl, rfl, rfl⟩
          · replace hc := of_decide_eq_false hc
            rw [if_neg hc] at h
            have hc6 := hc
            clear hc
            refine WL.rest 15 [6] (L' := [(6, .bool false)]) (by kernel_rfl) ?_
            refine QP.pick [6] ?_
            exact QP.meet ⟨_, Option.some.inj h, rfl, rfl, rfl⟩
        · replace hc := of_decide_eq_false hc
          rw [if_neg hc] at h
          have hc5 := hc
          clear hc
          refine WL.rest 11 [6] (L' := [(6, .bool false)]) (by kernel_rfl) ?_
          refine QP.pick [6] ?_
          exact QP.meet ⟨_, Option.some.inj h, rfl, rfl, rfl⟩
      · replace hc := of_decide_eq_false hc
        rw [if_neg hc] at h
        have hc4 := hc
        clear hc
        refine WL.rest 7 [6] (L' := [(6, .bool false)]) (by kernel_rfl) ?_
        refine QP.pick [6] ?_
        exact QP.meet ⟨_, Option.some.inj h, rfl, rfl, rfl⟩
    · replace hc := of_decide_eq_false hc
      rw [if_neg hc] at h
      have hc3 := hc
      clear hc
      refine WL.rest 3 [6] (L' := [(6, .bool false)]) (by kernel_rfl) ?_
      refine QP.pick [6] ?_
      exact QP.meet ⟨_, Option.some.inj h, rfl, rfl, rfl⟩
  · rintro _ _ _ ⟨s1, rfl, rfl, rfl, rfl⟩
    clear h
    replace h := hk2
    refine WP.ret ?_
    obtain rfl := Option.some.inj h
    exact QP.returned [6] [.bool s1] _ (by kernel_rfl) (by kernel_rfl) (by kernel_rfl) (fun W hI => ⟨_, _, _, rfl, ⟨rfl, rfl, rfl⟩, hI⟩)

/-! ### (*grapevine/grapevineref12.Tree).some: function 85 -/
def grapevineref12_Tree_some_l0 (a0 : T30) (a1 : Int) (a3 : Int) (t1 : Int) : Nat → Int → Option (Sum Bool Unit)
  | 0, _ => none
  | k + 1, y7 => (if y7 < (a0.f0.length : Int) then ((if 0 ≤ y7 ∧ y7 < (a0.f0.length : Int) then (if ((a0.f0.getD y7.toNat z36).f0) = a1 then (if 0 ≤ y7 ∧ y7 < (a0.f0.length : Int) then (if ¬ t1 = 0 then some ((IntKind.i64.wrap (Int.tdiv ((a0.f0.getD y7.toNat z36).f1) t1)) == a3) else none) else none) else some false) else none).bind fun s11 => (if s11 = true then some (Sum.inl true) else grapevineref12_Tree_some_l0 a0 a1 a3 t1 k (IntKind.i64.wrap (y7 + 1)))) else some (Sum.inr ()))
def grapevineref12_Tree_some (k : Nat) (a0 : T30) (a1 : Int) (a2 : Int) (a3 : Int) : Option Bool := ((grapevineref12_span k a2).bind fun t1 => ((grapevineref12_Tree_some_l0 a0 a1 a3 t1 k 0).bind fun os5 => match os5 with | Sum.inl r => some r | Sum.inr s5 => some false))
set_option maxHeartbeats 4000000 in
theorem grapevineref12_Tree_some_calls {B : World} {G : GMap} {Γ : List Chunk} {W : World} (k : Nat) (a0 : T30) (a1 : Int) (a2 : Int) (a3 : Int) (b0 : Nat) (Aa0_f0 : Option Addr) (ca0_f0 : Nat) (Ca0_f0 : Chunk) (Ha0_f0 : Ow k36 G Aa0_f0 ca0_f0 a0.f0 Ca0_f0) (r : Bool) (h : grapevineref12_Tree_some k a0 a1 a2 a3 = some r) (hI : Inv B G ([(b0, .cells #[.slice Aa0_f0 a0.f0.length ca0_f0] 30 (0, 0))] :: Ca0_f0 :: Γ) W) :
    Calls Tryd.prog 85 [.pointer (some ⟨b0, 0, none⟩), .int .i64 a1, .int .i64 a2, .int .i64 a3].toArray W (Ret B (fun v G' Γ' => v = .bool r ∧ G = G' ∧ [(b0, .cells #[.slice Aa0_f0 a0.f0.length ca0_f0] 30 (0, 0))] :: Ca0_f0 :: Γ = Γ')) := by
  refine calls_WP (Γ := [(b0, .cells #[.slice Aa0_f0 a0.f0.length ca0_f0] 30 (0, 0))] :: Ca0_f0 :: Γ) (G := G) (B := B) Tryd.func85 rfl (by kernel_rfl) ?_ hI
  clear hI
  unfold grapevineref12_Tree_some at h
  refine WP.seqP [0, 1, 2, 3] (L' := [(0, .pointer (some ⟨b0, 0, none⟩)), (1, .int .i64 a1), (2, .int .i64 a2), (3, .int .i64 a3)]) (by kernel_rfl) ?_
  refine WP.seqR ?_
  refine WL.pure 0 1 [0, 1, 3, 11] (L' := [(0, .pointer (some ⟨b0, 0, none⟩)), (1, .int .i64 a1), (3, .int .i64 a3), (11, .int .i64 a2)]) (by kernel_rfl) (by decide) ?_
  rw [Option.bind_eq_some_iff] at h
  obtain ⟨t1, ht2, h⟩ := h
  refine WL.op (op := .call { callee := (.value (.func 84)), args := #[(.tmp 11)], argTypes := #[3] }) (ty := 3) (d := some 12) (g := none) (by kernel_rfl) (by kernel_rfl) (by kernel_rfl) (Does.call (f := 84) (args := [.int .i64 a2]) (by kernel_rfl) (fun W hI => (grapevineref12_span_calls k a2  t1 ht2 hI))) ?_
  rintro _ _ _ ⟨rfl, rfl, rfl⟩
  refine WL.restQ 2 [0, 1, 3, 9] (L' := [(0, .pointer (some ⟨b0, 0, none⟩)), (1, .int .i64 a1), (3, .int .i64 a3), (9, .int .i64 t1)]) (by kernel_rfl) ?_
  refine WP.seq ?_
  refine WP.seqP [0, 1, 3, 9, 10] (L' := [(0, .pointer (some ⟨b0, 0, none⟩)), (1, .int .i64 a1), (3, .int .i64 a3), (9, .int .i64 t1), (10, .int .i64 0)]) (by kernel_rfl) ?_
  rw [Option.bind_eq_some_iff] at h
  obtain ⟨os5, h, hk6⟩ := h
  refine WP.cutQ (fun L' G' Γ' => ∃ s5 : Unit, Sum.inr s5 = os5 ∧ L' = [] ∧ G = G' ∧ [(b0, .cells #[.slice Aa0_f0 a0.f0.length ca0_f0] 30 (0, 0))] :: Ca0_f0 :: Γ = Γ') ?_ ?_
  · skip
    refine WP.block ?_
    refine WP.pick [0, 1, 3, 9, 10] ?_
    refine WP.loopF (fun kn8 L' G' Γ' => ∃ (y7 : Int), grapevineref12_Tree_some_l0 a0 a1 a3 t1 kn8 y7 = some os5 ∧ L' = [(0, .pointer (some ⟨b0, 0, none⟩)), (1, .int .i64 a1), (3, .int .i64 a3), (9, .int .i64 t1), (10, .int .i64 y7)] ∧ G = G' ∧ [(b0, .cells #[.slice Aa0_f0 a0.f0.length ca0_f0] 30 (0, 0))] :: Ca0_f0 :: Γ = Γ') ?_ k ⟨0, h, rfl, rfl, rfl⟩
    clear h
    rintro kn9 _ _ _ ⟨y7, h, rfl, rfl, rfl⟩
    cases kn9 with
    | zero => exact absurd h (by simp [grapevineref12_Tree_some_l0])
    | succ kn9 =>
      simp only [grapevineref12_Tree_some_l0] at h
      refine WP.seq ?_
      refine WP.seqR ?_
      refine WL.pure 0 4 [0, 1, 3, 9, 10, 13, 16] (L' := [(0, .pointer (some ⟨b0, 0, none⟩)), (1, .int .i64 a1), (3, .int .i64 a3), (9, .int .i64 t1), (10, .int .i64 y7), (13, .int .i64 y7), (16, .pointer (some ⟨b0, 0, none⟩))]) (by kernel_rfl) (by decide) ?_
      refine WL.tell (op := .load 28 (.tmp 16)) (ty := 28) (d := some 17) (g := none) (by kernel_rfl) (by kernel_rfl) (by kernel_rfl) (Tells.load_box (i := 0) (b := b0) (o := 0) (agg := false) (by rfl) ag28 (by kernel_rfl) (fun _ => rfl) (Nat.le_of_ble_eq_true rfl) (v := .slice Aa0_f0 a0.f0.length ca0_f0) (by kernel_rfl)) ?_
      refine WL.restQ 5 [0, 1, 3, 9, 10, 19] (L' := [(0, .pointer (some ⟨b0, 0, none⟩)), (1, .int .i64 a1), (3, .int .i64 a3), (9, .int .i64 t1), (10, .int .i64 y7), (19, .bool (decide (y7 < (a0.f0.length : Int))))]) (by kernel_rfl) ?_
      refine WP.cond (b := decide (y7 < (a0.f0.length : Int))) (by kernel_rfl) (fun hc => ?_) (fun hc => ?_)
      · replace hc := of_decide_eq_true hc
        rw [if_pos hc] at h
        have hc10 := hc
        clear hc
        refine WP.skip ?_
        refine QP.next ?_
        refine WP.pick [0, 1, 3, 9, 10] ?_
        refine WP.seq ?_
        refine WP.block ?_
        rw [Option.bind_eq_some_iff] at h
        obtain ⟨os11, h, hk12⟩ := h
        refine WP.cut (fun L' G' Γ' => ∃ s11 : Bool, s11 = os11 ∧ L' = [(0, .pointer (some ⟨b0, 0, none⟩)), (1, .int .i64 a1), (3, .int .i64 a3), (9, .int .i64 t1), (10, .int .i64 y7), (47, .bool s11)] ∧ G = G' ∧ [(b0, .cells #[.slice Aa0_f0 a0.f0.length ca0_f0] 30 (0, 0))] :: Ca0_f0 :: Γ = Γ') ?_ ?_
        · clear hk12
          refine WP.region ?_
          refine WL.pure 0 3 [0, 1, 3, 9, 10, 24] (L' := [(0, .pointer (some ⟨b0, 0, none⟩)), (1, .int .i64 a1), (3, .int .i64 a3), (9, .int .i64 t1), (10, .int .i64 y7), (24, .pointer (some ⟨b0, 0, none⟩))]) (by kernel_rfl) (by decide) ?_
          refine WL.tell (op := .load 28 (.tmp 24)) (ty := 28) (d := some 25) (g := none) (by kernel_rfl) (by kernel_rfl) (by kernel_rfl) (Tells.load_box (i := 0) (b := b0) (o := 0) (agg := false) (by rfl) ag28 (by kernel_rfl) (fun _ => rfl) (Nat.le_of_ble_eq_true rfl) (v := .slice Aa0_f0 a0.f0.length ca0_f0) (by kernel_rfl)) ?_
          refine WL.pure 4 5 [0, 1, 3, 9, 10, 25, 26] (L' := [(0, .pointer (some ⟨b0, 0, none⟩)), (1, .int .i64 a1), (3, .int .i64 a3), (9, .int .i64 t1), (10, .int .i64 y7), (25, .slice Aa0_f0 a0.f0.length ca0_f0), (26, .int .i64 y7)]) (by kernel_rfl) (by decide) ?_
          by_cases hb13 : 0 ≤ y7 ∧ y7 < (a0.f0.length : Int)
          case neg => rw [if_neg hb13] at h; cases h
          rw [if_pos hb13] at h
          refine WL.tell (op := .indexAddr 28 (.tmp 25) (.tmp 26)) (ty := 0) (d := some 27) (g := none) (by kernel_rfl) (by kernel_rfl) (by kernel_rfl) (Tells.indexAddr (A := Aa0_f0) (n := a0.f0.length) (c := ca0_f0) (k := .i64) (j := y7) (by kernel_rfl) (by kernel_rfl) (Ha0_f0.isSome hb13.1 hb13.2) hb13.1 hb13.2 sl28) ?_
          refine WL.tell (op := .fieldAddr 36 (.tmp 27) 0) (ty := 0) (d := some 28) (g := none) (by kernel_rfl) (by kernel_rfl) (by kernel_rfl) (Tells.fieldElem (m := y7.toNat * 5) (A := Aa0_f0) (by kernel_rfl) (Ha0_f0.isSome hb13.1 hb13.2) fi36_0) ?_
          refine WL.tell (op := .fieldAddr 32 (.tmp 28) 0) (ty := 0) (d := some 29) (g := none) (by kernel_rfl) (by kernel_rfl) (by kernel_rfl) (Tells.fieldElem (m := y7.toNat * 5 + 0) (A := Aa0_f0) (by kernel_rfl) (Ha0_f0.isSome hb13.1 hb13.2) fi32_0) ?_
          refine WL.tellE (op := .load 3 (.tmp 29)) (ty := 3) (d := some 30) (g := none) (by kernel_rfl) (by kernel_rfl) (by kernel_rfl) (Ha0_f0.loadF (i := 1) rfl (agg := false) (off := 0) hb13.1 hb13.2 z36 ag3 (fun _ => rfl) (by decide) (by kernel_rfl)) ?_
          rintro _ rfl
          refine WL.pure 9 12 [0, 1, 3, 9, 10, 33] (L' := [(0, .pointer (some ⟨b0, 0, none⟩)), (1, .int .i64 a1), (3, .int .i64 a3), (9, .int .i64 t1), (10, .int .i64 y7), (33, .bool (((a0.f0.getD y7.toNat z36).f0) == a1))]) (by kernel_rfl) (by decide) ?_
          refine WL.split 33 (b := (((a0.f0.getD y7.toNat z36).f0) == a1)) (by kernel_rfl) (fun hc => ?_) (fun hc => ?_)
          · replace hc := eq_of_beq hc
            rw [if_pos hc] at h
            have hc14 := hc
            clear hc
            refine WL.pure 12 15 [0, 1, 3, 9, 10, 33, 36] (L' := [(0, .pointer (some ⟨b0, 0, none⟩)), (1, .int .i64 a1), (3, .int .i64 a3), (9, .int .i64 t1), (10, .int .i64 y7), (33, .bool true), (36, .pointer (some ⟨b0, 0, none⟩))]) (by kernel_rfl) (by decide) ?_
            refine WL.tell (op := .load 28 (.tmp 36)) (ty := 28) (d := some 37) (g := some (11, true)) (by kernel_rfl) (by kernel_rfl) (by kernel_rfl) (Tells.load_box (i := 0) (b := b0) (o := 0) (agg := false) (by rfl) ag28 (by kernel_rfl) (fun _ => rfl) (Nat.le_of_ble_eq_true rfl) (v := .slice Aa0_f0 a0.f0.length ca0_f0) (by kernel_rfl)) ?_
            refine WL.pure 16 17 [0, 1, 3, 9, 10, 33, 37, 38] (L' := [(0, .pointer (some ⟨b0, 0, none⟩)), (1, .int .i64 a1), (3, .int .i64 a3), (9, .int .i64 t1), (10, .int .i64 y7), (33, .bool true), (37, .slice Aa0_f0 a0.f0.length ca0_f0), (38, .int .i64 y7)]) (by kernel_rfl) (by decide) ?_
            by_cases hb15 : 0 ≤ y7 ∧ y7 < (a0.f0.length : Int)
            case neg => rw [if_neg hb15] at h; cases h
            rw [if_pos hb15] at h
            refine WL.tell (op := .indexAddr 28 (.tmp 37) (.tmp 38)) (ty := 0) (d := some 39) (g := some (11, true)) (by kernel_rfl) (by kernel_rfl) (by kernel_rfl) (Tells.indexAddr (A := Aa0_f0) (n := a0.f0.length) (c := ca0_f0) (k := .i64) (j := y7) (by kernel_rfl) (by kernel_rfl) (Ha0_f0.isSome hb15.1 hb15.2) hb15.1 hb15.2 sl28) ?_
            refine WL.tell (op := .fieldAddr 36 (.tmp 39) 0) (ty := 0) (d := some 40) (g := some (11, true)) (by kernel_rfl) (by kernel_rfl) (by kernel_rfl) (Tells.fieldElem (m := y7.toNat * 5) (A := Aa0_f0) (by kernel_rfl) (Ha0_f0.isSome hb15.1 hb15.2) fi36_0) ?_
            refine WL.tell (op := .fieldAddr 32 (.tmp 40) 1) (ty := 0) (d := some 41) (g := some (11, true)) (by kernel_rfl) (by kernel_rfl) (by kernel_rfl) (Tells.fieldElem (m := y7.toNat * 5 + 0) (A := Aa0_f0) (by kernel_rfl) (Ha0_f0.isSome hb15.1 hb15.2) fi32_1) ?_
            refine WL.tellE (op := .load 3 (.tmp 41)) (ty := 3) (d := some 42) (g := some (11, true)) (by kernel_rfl) (by kernel_rfl) (by kernel_rfl) (Ha0_f0.loadF (i := 1) rfl (agg := false) (off := 1) hb15.1 hb15.2 z36 ag3 (fun _ => rfl) (by decide) (by kernel_rfl)) ?_
            rintro _ rfl
            refine WL.pure 21 22 [0, 1, 3, 9, 10, 33, 42, 43] (L' := [(0, .pointer (some ⟨b0, 0, none⟩)), (1, .int .i64 a1), (3, .int .i64 a3), (9, .int .i64 t1), (10, .int .i64 y7), (33, .bool true), (42, .int .i64 ((a0.f0.getD y7.toNat z36).f1)), (43, .int .i64 t1)]) (by kernel_rfl) (by decide) ?_
            by_cases hb16 : ¬ t1 = 0
            case neg => rw [if_neg hb16] at h; cases h
            rw [if_pos hb16] at h
            refine WL.tell (op := .binOp .quo 3 (.tmp 42) (.tmp 43) 3) (ty := 3) (d := some 44) (g := some (11, true)) (by kernel_rfl) (by kernel_rfl) (by kernel_rfl) (Tells.quo (k := .i64) (a := ((a0.f0.getD y7.toNat z36).f1)) (b := t1) (by kernel_rfl) (by kernel_rfl) hb16) ?_
            refine WL.rest 23 [0, 1, 3, 9, 10, 47] (L' := [(0, .pointer (some ⟨b0, 0, none⟩)), (1, .int .i64 a1), (3, .int .i64 a3), (9, .int .i64 t1), (10, .int .i64 y7), (47, .bool ((IntKind.i64.wrap (Int.tdiv ((a0.f0.getD y7.toNat z36).f1) t1)) == a3))]) (by kernel_rfl) ?_
            refine QP.pick [0, 1, 3, 9, 10, 47] ?_
            exact QP.meet ⟨_, Option.some.inj h, rfl, rfl, rfl⟩
          · replace hc := ne_of_beq_false hc
            rw [if_neg hc] at h
            have hc14 := hc
            clear hc
            refine WL.rest 12 [0, 1, 3, 9, 10, 47] (L' := [(0, .pointer (some ⟨b0, 0, none⟩)), (1, .int .i64 a1), (3, .int .i64 a3), (9, .int .i64 t1), (10, .int .i64 y7), (47, .bool false)]) (by kernel_rfl) ?_
            refine QP.pick [0, 1, 3, 9, 10, 47] ?_
            exact QP.meet ⟨_, Option.some.inj h, rfl, rfl, rfl⟩
        · rintro _ _ _ ⟨s11, rfl, rfl, rfl, rfl⟩
          clear h
          replace h := hk12
          refine WP.cond (b := s11) (by kernel_rfl) (fun hc => ?_) (fun hc => ?_)
          · replace hc := hc
            rw [if_pos hc] at h
            have hc17 := hc
            clear hc
            refine WP.seqP [8] (L' := [(8, .bool true)]) (by kernel_rfl) ?_
            refine WP.ret ?_
            refine QP.blockR ?_
            refine QP.thenR ?_
            refine QP.thenR ?_
            refine QP.blockR ?_
            refine QP.thenR ?_
            refine QP.thenR ?_
            obtain rfl := Option.some.inj h
            obtain rfl := Option.some.inj (show some _ = some _ from hk6)
            exact QP.returned [8] [.bool true] _ (by kernel_rfl) (by kernel_rfl) (by kernel_rfl) (fun W hI => ⟨_, _, _, rfl, ⟨rfl, rfl, rfl⟩, hI⟩)
          · replace hc := (Bool.eq_false_iff.1 hc)
            rw [if_neg hc] at h
            have hc17 := hc
            clear hc
            refine WP.skip ?_
            refine QP.blockN ?_
            refine QP.next ?_
            refine WP.pick [0, 1, 3, 9, 10] ?_
            refine WP.regionP [0, 1, 3, 9, 10] (L' := [(0, .pointer (some ⟨b0, 0, none⟩)), (1, .int .i64 a1), (3, .int .i64 a3), (9, .int .i64 t1), (10, .int .i64 (IntKind.i64.wrap (y7 + 1)))]) (by kernel_rfl) ?_
            refine QP.front (i := 1) rfl ?_
            refine QP.front (i := 1) rfl ?_
            refine QP.pick [0, 1, 3, 9, 10] ?_
            exact QP.meet ⟨kn9, Nat.lt_succ_self _, (IntKind.i64.wrap (y7 + 1)), h, rfl, rfl, rfl⟩
      · replace hc := of_decide_eq_false hc
        rw [if_neg hc] at h
        have hc10 := hc
        clear hc
        refine WP.exit ?_
        refine QP.thenE ?_
        refine QP.thenE ?_
        refine QP.blockE ?_
        refine QP.pick [] ?_
        exact QP.meet ⟨_, Option.some.inj h, rfl, rfl, rfl⟩
  · rintro _ _ _ ⟨s5, rfl, rfl, rfl, rfl⟩
    clear h
    replace h := hk6
    dsimp only at h
    refine QP.next ?_
    refine WP.pick [] ?_
    refine WP.seqP [8] (L' := [(8, .bool false)]) (by kernel_rfl) ?_
    refine WP.ret ?_
    obtain rfl := Option.some.inj h
    exact QP.returned [8] [.bool false] _ (by kernel_rfl) (by kernel_rfl) (by kernel_rfl) (fun W hI => ⟨_, _, _, rfl, ⟨rfl, rfl, rfl⟩, hI⟩)

/-! ### (*grapevine/grapevineref12.Tree).sum: function 62 -/
def grapevineref12_Tree_sum_l0 (a0 : T30) (a1 : Int) (a2 : Int) (a3 : Int) (rec_ : T30 → Int → Int → Int → Option Int) : Nat → (List Int) → Int → Option (List Int)
  | 0, _, _ => none
  | k + 1, y23, y24 => (if y24 < 4 then ((rec_ a0 a1 (IntKind.i64.wrap (a2 + 1)) (IntKind.i64.wrap ((IntKind.i64.wrap (a3 * 4)) + y24))).bind fun t28 => (if y23.length + ([t28] : List Int).length ≤ 1073741824 then grapevineref12_Tree_sum_l0 a0 a1 a2 a3 rec_ k (y23 ++ ([t28] : List Int)) (IntKind.i64.wrap (y24 + 1)) else none)) else some y23)
def grapevineref12_Tree_sum : Nat → T30 → Int → Int → Int → Option Int
  | 0, _, _, _, _ => none
  | k + 1, a0, a1, a2, a3 => ((grapevineref12_Tree_some k a0 a1 a2 a3).bind fun t1 => (if (!t1) = true then some 0 else (if a2 = 5 then ((grapevineref12_Tree_Find k a0 (⟨a1, a3⟩ : T32)).bind fun t7 => (if 0 ≤ t7 ∧ t7 < (a0.f0.length : Int) then ((grapevineref4_Lay k (a0.f0.getD t7.toNat z36)).bind fun t12 => ((grapevineref5_One k t12.1).bind fun t16 => some t16)) else none)) else ((grapevineref12_Tree_sum_l0 a0 a1 a2 a3 (grapevineref12_Tree_sum k) k ([] : List Int) 0).bind fun s21 => ((grapevineref5_All k s21).bind fun t37 => some t37)))))
set_option maxHeartbeats 4000000 in
theorem grapevineref12_Tree_sum_calls_k (k : Nat) : ∀ {B : World} {G : GMap} {Γ : List Chunk} {W : World} (HT : Tabs B G) (a0 : T30) (a1 : Int) (a2 : Int) (a3 : Int) (b0 : Nat) (Aa0_f0 : Option Addr) (ca0_f0 : Nat) (Ca0_f0 : Chunk) (Ha0_f0 : Ow k36 G Aa0_f0 ca0_f0 a0.f0 Ca0_f0) (r : Int) (h : grapevineref12_Tree_sum k a0 a1 a2 a3 = some r) (hI : Inv B G ([(b0, .cells #[.slice Aa0_f0 a0.f0.length ca0_f0] 30 (0, 0))] :: Ca0_f0 :: Γ) W),
    Calls Tryd.prog 62 [.pointer (some ⟨b0, 0, none⟩), .int .i64 a1, .int .i64 a2, .int .i64 a3].toArray W (Ret B (fun v G' Γ' => v = .int .u64 r ∧ G = G' ∧ [(b0, .cells #[.slice Aa0_f0 a0.f0.length ca0_f0] 30 (0, 0))] :: Ca0_f0 :: Γ = Γ')) := by
  induction k with
  | zero => intro B G Γ W HT a0 a1 a2 a3 b0 Aa0_f0 ca0_f0 Ca0_f0 Ha0_f0 r h hI; exact absurd h (by simp [grapevineref12_Tree_sum])
  | succ kf ih =>
    intro B G Γ W HT a0 a1 a2 a3 b0 Aa0_f0 ca0_f0 Ca0_f0 Ha0_f0 r h hI
    refine calls_WP (Γ := [(b0, .cells #[.slice Aa0_f0 a0.f0.length ca0_f0] 30 (0, 0))] :: Ca0_f0 :: Γ) (G := G) (B := B) Tryd.func62 rfl (by kernel_rfl) ?_ hI
    clear hI
    simp only [grapevineref12_Tree_sum] at h
    refine WP.seqP [0, 1, 2, 3] (L' := [(0, .pointer (some ⟨b0, 0, none⟩)), (1, .int .i64 a1), (2, .int .i64 a2), (3, .int .i64 a3)]) (by kernel_rfl) ?_
    refine WP.seq ?_
    refine WP.seqR ?_
    refine WL.pure 0 4 [0, 1, 2, 3, 13, 14, 15, 16] (L' := [(0, .pointer (some ⟨b0, 0, none⟩)), (1, .int .i64 a1), (2, .int .i64 a2), (3, .int .i64 a3), (13, .pointer (some ⟨b0, 0, none⟩)), (14, .int .i64 a1), (15, .int .i64 a2), (16, .int .i64 a3)]) (by kernel_rfl) (by decide) ?_
    refine WL.front (i := 1) rfl ?_
    refine WL.front (i := 1) rfl ?_
    rw [Option.bind_eq_some_iff] at h
    obtain ⟨t1, ht2, h⟩ := h
    refine WL.op (op := .call { callee := (.value (.func 85)), args := #[(.tmp 13), (.tmp 14), (.tmp 15), (.tmp 16)], argTypes := #[27, 3, 3, 3] }) (ty := 4) (d := some 17) (g := none) (by kernel_rfl) (by kernel_rfl) (by kernel_rfl) (Does.call (f := 85) (args := [.pointer (some ⟨b0, 0, none⟩), .int .i64 a1, .int .i64 a2, .int .i64 a3]) (by kernel_rfl) (fun W hI => (grapevineref12_Tree_some_calls kf a0 a1 a2 a3 b0 Aa0_f0 ca0_f0 Ca0_f0 Ha0_f0 t1 ht2 hI))) ?_
    rintro _ _ _ ⟨rfl, rfl, rfl⟩
    refine WL.restQ 5 [0, 1, 2, 3, 18] (L' := [(0, .pointer (some ⟨b0, 0, none⟩)), (1, .int .i64 a1), (2, .int .i64 a2), (3, .int .i64 a3), (18, .bool (!t1))]) (by kernel_rfl) ?_
    refine WP.cond (b := (!t1)) (by kernel_rfl) (fun hc => ?_) (fun hc => ?_)
    · replace hc := hc
      rw [if_pos hc] at h
      have hc5 := hc
      clear hc
      refine WP.seqP [8] (L' := [(8, .int .u64 0)]) (by kernel_rfl) ?_
      refine WP.ret ?_
      refine QP.thenR ?_
      obtain rfl := Option.some.inj h
      exact QP.returned [8] [.int .u64 0] _ (by kernel_rfl) (by kernel_rfl) (by kernel_rfl) (fun W hI => ⟨_, _, _, rfl, ⟨rfl, rfl, rfl⟩, hI⟩)
    · replace hc := (Bool.eq_false_iff.1 hc)
      rw [if_neg hc] at h
      have hc5 := hc
      clear hc
      refine WP.skip ?_
      refine QP.next ?_
      refine WP.pick [0, 1, 2, 3] ?_
      refine WP.seq ?_
      refine WP.seqP [0, 1, 2, 3, 20] (L' := [(0, .pointer (some ⟨b0, 0, none⟩)), (1, .int .i64 a1), (2, .int .i64 a2), (3, .int .i64 a3), (20, .bool (a2 == 5))]) (by kernel_rfl) ?_
      refine WP.cond (b := (a2 == 5)) (by kernel_rfl) (fun hc => ?_) (fun hc => ?_)
      · replace hc := eq_of_beq hc
        rw [if_pos hc] at h
        have hc6 := hc
        clear hc
        refine WP.seq ?_
        refine WP.any (N := 17) (S := [⟨some 22, [0], []⟩, ⟨some 23, [22], [0]⟩, ⟨some 24, [23], [1]⟩, ⟨some 25, [24], [2]⟩, ⟨some 26, [0], []⟩, ⟨some 27, [1], []⟩, ⟨some 28, [3], []⟩, ⟨some 29, [27, 28], [5, 6]⟩, ⟨some 30, [26, 29], [4, 7]⟩, ⟨some 31, [25, 30], [3, 8]⟩, ⟨some 32, [31], [9]⟩, ⟨some 33, [32], [8, 10]⟩, ⟨some 21, [33], [11]⟩, ⟨some 34, [21], [12]⟩, ⟨some 35, [21], [12]⟩, ⟨some 9, [34], [0, 1, 2, 3, 4, 5, 6, 7, 8, 9, 10, 11, 12, 13]⟩, ⟨some 10, [35], [0, 1, 2, 3, 4, 5, 6, 7, 8, 9, 10, 11, 12, 13, 14, 15]⟩]) (kw := 17) (G0 := G) (Γ0 := [(b0, .cells #[.slice Aa0_f0 a0.f0.length ca0_f0] 30 (0, 0))] :: Ca0_f0 :: Γ) mo (by kernel_rfl) (fun hS => ?_)
        refine WA.pure [0, 1, 2, 4, 5, 6, 7] [24, 26, 29] (m := 10) (b' := 247) (L' := [(24, .pointer (some ⟨b0, 0, none⟩)), (26, .pointer (some ⟨b0, 0, none⟩)), (29, .agg #[.int .i64 a1, .int .i64 a3])]) (by kernel_rfl) (NoPanic.then (NoPanic.then (NoPanic.body))) Under.refl hS (by kernel_rfl) ?_
        refine WA.tellD [] (i := 3) (m := 9) (b' := 255) (by kernel_rfl) (NoPanic.then (NoPanic.then (NoPanic.body))) Under.refl hS (by kernel_rfl) (op := .load 28 (.tmp 24)) (ty := 28) (d := some 25) (g := none) (by kernel_rfl) (by kernel_rfl) (by kernel_rfl) (Tells.load_box (i := 0) (b := b0) (o := 0) (agg := false) (by rfl) ag28 (by kernel_rfl) (fun _ => rfl) (Nat.le_of_ble_eq_true rfl) (v := .slice Aa0_f0 a0.f0.length ca0_f0) (by kernel_rfl)) ?_
        refine WA.front (i := 1) rfl ?_
        refine WA.front (i := 1) rfl ?_
        rw [Option.bind_eq_some_iff] at h
        obtain ⟨t7, ht8, h⟩ := h
        refine WA.op (i := 8) (m := 8) (b' := 511) (by kernel_rfl) hS (by kernel_rfl) (op := .call { callee := (.value (.func 55)), args := #[(.tmp 26), (.tmp 29)], argTypes := #[27, 32] }) (ty := 3) (d := some 30) (g := none) (by kernel_rfl) (by kernel_rfl) (by kernel_rfl) (Does.call (f := 55) (args := [.pointer (some ⟨b0, 0, none⟩), .agg #[.int .i64 a1, .int .i64 a3]]) (by kernel_rfl) (fun W hI => (grapevineref12_Tree_Find_calls kf a0 (⟨a1, a3⟩ : T32) b0 Aa0_f0 ca0_f0 Ca0_f0 Ha0_f0 t7 ht8 hI))) ?_
        rintro _ _ _ ⟨rfl, rfl, rfl⟩
        refine ⟨_, _, (Under.trans (Under.front (i := 1) rfl (Under.front (i := 1) rfl (Under.refl))) (Under.refl)), Under.refl, ?_⟩
        by_cases hb11 : 0 ≤ t7 ∧ t7 < (a0.f0.length : Int)
        case neg => rw [if_neg hb11] at h; cases h
        rw [if_pos hb11] at h
        refine WA.tellD [] (i := 9) (m := 7) (b' := 1023) (by kernel_rfl) (NoPanic.then (NoPanic.then (NoPanic.body))) Under.refl hS (by kernel_rfl) (op := .indexAddr 28 (.tmp 25) (.tmp 30)) (ty := 0) (d := some 31) (g := none) (by kernel_rfl) (by kernel_rfl) (by kernel_rfl) (Tells.indexAddr (A := Aa0_f0) (n := a0.f0.length) (c := ca0_f0) (k := .i64) (j := t7) (by kernel_rfl) (by kernel_rfl) (Ha0_f0.isSome hb11.1 hb11.2) hb11.1 hb11.2 sl28) ?_
        refine WA.tellDE [] (i := 10) (m := 6) (b' := 2047) (by kernel_rfl) (NoPanic.then (NoPanic.then (NoPanic.body))) Under.refl hS (by kernel_rfl) (op := .load 36 (.tmp 31)) (ty := 36) (d := some 32) (g := none) (by kernel_rfl) (by kernel_rfl) (by kernel_rfl) (Ha0_f0.load (i := 1) rfl (agg := true) hb11.1 hb11.2 z36 ag36 (fun h => by cases h) (by kernel_rfl)) ?_
        rintro _ rfl
        rw [Option.bind_eq_some_iff] at h
        obtain ⟨t12, ht13, h⟩ := h
        refine WA.op (i := 11) (m := 5) (b' := 4095) (by kernel_rfl) hS (by kernel_rfl) (op := .call { callee := (.value (.func 29)), args := #[(.tmp 32)], argTypes := #[36] }) (ty := 56) (d := some 33) (g := none) (by kernel_rfl) (by kernel_rfl) (by kernel_rfl) (Does.call (f := 29) (args := [.agg #[.int .i64 ((a0.f0.getD t7.toNat z36).f0), .int .i64 ((a0.f0.getD t7.toNat z36).f1), .int .i64 ((a0.f0.getD t7.toNat z36).f2), .int .i64 ((a0.f0.getD t7.toNat z36).f3), .string ((a0.f0.getD t7.toNat z36).f4)]]) (by kernel_rfl) (fun W hI => (grapevineref4_Lay_calls HT kf (a0.f0.getD t7.toNat z36)  t12 ht13 hI))) ?_
        rintro _ _ _ ⟨AR140, cR140, CR140, rfl, HR140, rfl, rfl⟩
        refine ⟨_, _, Under.cons (Under.refl), Under.refl, ?_⟩
        refine WA.pure [12, 13, 14, 15, 16] [9] (m := 0) (b' := 131071) (L' := [(9, .slice AR140 t12.1.length cR140)]) (by kernel_rfl) (NoPanic.then (NoPanic.then (NoPanic.body))) Under.refl hS (by kernel_rfl) ?_
        refine WA.done hS (by kernel_rfl) ?_
        refine QP.pick [9] ?_
        refine QP.next ?_
        refine WP.seqR ?_
        refine WL.pure 0 1 [36] (L' := [(36, .slice AR140 t12.1.length cR140)]) (by kernel_rfl) (by decide) ?_
        rw [Option.bind_eq_some_iff] at h
        obtain ⟨t16, ht17, h⟩ := h
        refine WL.op (op := .call { callee := (.value (.func 30)), args := #[(.tmp 36)], argTypes := #[55] }) (ty := 44) (d := some 37) (g := none) (by kernel_rfl) (by kernel_rfl) (by kernel_rfl) (Does.call (Φ := fun v' G' Γ' => v' = .int .u64 t16 ∧ G = G' ∧ CR140 :: [(b0, .cells #[.slice Aa0_f0 a0.f0.length ca0_f0] 30 (0, 0))] :: Ca0_f0 :: Γ = Γ') (f := 30) (args := [.slice AR140 t12.1.length cR140]) (by kernel_rfl) (fun W hI => (Calls.lendN (Φ := fun v' N => v' = .int .u64 t16 ∧ N = []) (H := []) (i := 0) rfl hI (fun _ e l20 nl20 hI => by subst e; exact (((grapevineref5_One_calls kf t12.1 AR140 cR140 (HR140.rdN l20 nl20) t16 ht17 hI)).mono fun _ _ hr => by obtain ⟨_, _, _, rfl, hd, hI⟩ := hr; obtain ⟨rfl, rfl, rfl⟩ := hd; exact ⟨_, _, _, rfl, ⟨[], ⟨rfl, rfl⟩, rfl, rfl⟩, hI⟩))).mono fun _ _ hr => by obtain ⟨_, _, _, rfl, ⟨_, hd, rfl, rfl⟩, hI⟩ := hr; obtain ⟨rfl, rfl⟩ := hd; exact ⟨_, _, _, rfl, ⟨rfl, rfl, rfl⟩, hI⟩)) ?_
        rintro _ _ _ ⟨rfl, rfl, rfl⟩
        refine WL.restQ 2 [8] (L' := [(8, .int .u64 t16)]) (by kernel_rfl) ?_
        refine WP.dropAt 0 ?_
        refine WP.ret ?_
        refine QP.thenR ?_
        obtain rfl := Option.some.inj h
        exact QP.returned [8] [.int .u64 t16] _ (by kernel_rfl) (by kernel_rfl) (by kernel_rfl) (fun W hI => ⟨_, _, _, rfl, ⟨rfl, rfl, rfl⟩, hI⟩)
      · replace hc := ne_of_beq_false hc
        rw [if_neg hc] at h
        have hc6 := hc
        clear hc
        refine WP.skip ?_
        refine QP.next ?_
        refine WP.pick [0, 1, 2, 3] ?_
        refine WP.seqP [0, 1, 2, 3, 11] (L' := [(0, .pointer (some ⟨b0, 0, none⟩)), (1, .int .i64 a1), (2, .int .i64 a2), (3, .int .i64 a3), (11, .slice none 0 0)]) (by kernel_rfl) ?_
        refine WP.seq ?_
        refine WP.seqP [0, 1, 2, 3, 11, 12] (L' := [(0, .pointer (some ⟨b0, 0, none⟩)), (1, .int .i64 a1), (2, .int .i64 a2), (3, .int .i64 a3), (11, .slice none 0 0), (12, .int .i64 0)]) (by kernel_rfl) ?_
        rw [Option.bind_eq_some_iff] at h
        obtain ⟨os21, h, hk22⟩ := h
        refine WP.cutQ (fun L' G' Γ' => ∃ s21 : (List Int), s21 = os21 ∧ ∃ (As21 : Option Addr), ∃ (cs21 : Nat), ∃ (Cs21 : Chunk), L' = [(11, .slice As21 s21.length cs21)] ∧ G = G' ∧ Cs21 :: [(b0, .cells #[.slice Aa0_f0 a0.f0.length ca0_f0] 30 (0, 0))] :: Ca0_f0 :: Γ = Γ' ∧ Ow (kInt .u64) G As21 cs21 s21 Cs21) ?_ ?_
        · clear hk22
          refine WP.block ?_
          refine WP.addNil ?_
          refine WP.pick [0, 1, 2, 3, 11, 12] ?_
          refine WP.loopF (fun kn25 L' G' Γ' => ∃ (y23 : List Int), ∃ (y24 : Int), grapevineref12_Tree_sum_l0 a0 a1 a2 a3 (grapevineref12_Tree_sum kf) kn25 y23 y24 = some os21 ∧ ∃ (Ay23 : Option Addr), ∃ (cy23 : Nat), ∃ (Cy23 : Chunk), L' = [(0, .pointer (some ⟨b0, 0, none⟩)), (1, .int .i64 a1), (2, .int .i64 a2), (3, .int .i64 a3), (11, .slice Ay23 y23.length cy23), (12, .int .i64 y24)] ∧ G = G' ∧ Cy23 :: [(b0, .cells #[.slice Aa0_f0 a0.f0.length ca0_f0] 30 (0, 0))] :: Ca0_f0 :: Γ = Γ' ∧ Ow (kInt .u64) G Ay23 cy23 y23 Cy23) ?_ kf ⟨([] : List Int), 0, h, none, 0, [], rfl, rfl, rfl, (Ow.nil (kInt .u64) _)⟩
          clear h
          rintro kn26 _ _ _ ⟨y23, y24, h, Ay23, cy23, Cy23, rfl, rfl, rfl, Hy23⟩
          cases kn26 with
          | zero => exact absurd h (by simp [grapevineref12_Tree_sum_l0])
          | succ kn26 =>
            simp only [grapevineref12_Tree_sum_l0] at h
            refine WP.seq ?_
            refine WP.seqP [0, 1, 2, 3, 11, 12, 39] (L' := [(0, .pointer (some ⟨b0, 0, none⟩)), (1, .int .i64 a1), (2, .int .i64 a2), (3, .int .i64 a3), (11, .slice Ay23 y23.length cy23), (12, .int .i64 y24), (39, .bool (decide (y24 < 4)))]) (by kernel_rfl) ?_
            refine WP.cond (b := decide (y24 < 4)) (by kernel_rfl) (fun hc => ?_) (fun hc => ?_)
            · replace hc := of_decide_eq_true hc
              rw [if_pos hc] at h
              have hc27 := hc
              clear hc
              refine WP.skip ?_
              refine QP.next ?_
              refine WP.pick [0, 1, 2, 3, 11, 12] ?_
              refine WP.seq ?_
              refine WP.block ?_
              refine WP.region ?_
              refine WL.pure 0 9 [0, 1, 2, 3, 11, 12, 42, 43, 44, 46, 50] (L' := [(0, .pointer (some ⟨b0, 0, none⟩)), (1, .int .i64 a1), (2, .int .i64 a2), (3, .int .i64 a3), (11, .slice Ay23 y23.length cy23), (12, .int .i64 y24), (42, .slice Ay23 y23.length cy23), (43, .pointer (some ⟨b0, 0, none⟩)), (44, .int .i64 a1), (46, .int .i64 (IntKind.i64.wrap (a2 + 1))), (50, .int .i64 (IntKind.i64.wrap ((IntKind.i64.wrap (a3 * 4)) + y24)))]) (by kernel_rfl) (by decide) ?_
              refine WL.front (i := 2) rfl ?_
              refine WL.front (i := 2) rfl ?_
              rw [Option.bind_eq_some_iff] at h
              obtain ⟨t28, ht29, h⟩ := h
              refine WL.op (op := .call { callee := (.value (.func 62)), args := #[(.tmp 43), (.tmp 44), (.tmp 46), (.tmp 50)], argTypes := #[27, 3, 3, 3] }) (ty := 44) (d := some 51) (g := none) (by kernel_rfl) (by kernel_rfl) (by kernel_rfl) (Does.call (f := 62) (args := [.pointer (some ⟨b0, 0, none⟩), .int .i64 a1, .int .i64 (IntKind.i64.wrap (a2 + 1)), .int .i64 (IntKind.i64.wrap ((IntKind.i64.wrap (a3 * 4)) + y24))]) (by kernel_rfl) (fun W hI => (ih HT a0 a1 (IntKind.i64.wrap (a2 + 1)) (IntKind.i64.wrap ((IntKind.i64.wrap (a3 * 4)) + y24)) b0 Aa0_f0 ca0_f0 Ca0_f0 Ha0_f0 t28 ht29 hI))) ?_
              rintro _ _ _ ⟨rfl, rfl, rfl⟩
              refine WL.op (op := .buildSlice 53 1 #[(0, (.tmp 51))]) (ty := 53) (d := some 52) (g := none) (by kernel_rfl) (by kernel_rfl) (by kernel_rfl) (Does.new (o := .cells #[.int .u64 t28] 44 (0, 0)) (v := fun r => .slice (some ⟨r, 0, none⟩) 1 1) (fun r => by kernel_rfl)) ?_
              rintro _ _ _ ⟨b32, rfl, rfl, rfl⟩
              have Ho34 : Ow (kInt .u64) G (some ⟨b32, 0, none⟩) 1 ([t28] : List Int) [(b32, .cells #[.int .u64 t28] 44 (0, 0))] := Ow.lit (kd := (kInt .u64)) (G := G) (b := b32) (T := 44) (xs := ([t28] : List Int)) (cs := [.int .u64 t28]) (.cons (x := t28) (cs := [.int .u64 t28]) (by exact rfl) .nil)
              by_cases hb35 : y23.length + ([t28] : List Int).length ≤ 1073741824
              case neg => rw [if_neg hb35] at h; cases h
              rw [if_pos hb35] at h
              refine WL.op (op := .call { callee := (.builtin .append), args := #[(.tmp 42), (.tmp 52)], argTypes := #[53, 53] }) (ty := 53) (d := some 53) (g := none) (by kernel_rfl) (by kernel_rfl) (by kernel_rfl) (Ow.append (ys := ([t28] : List Int)) (v := .slice (some ⟨b32, 0, none⟩) ([t28] : List Int).length 1) Hy23 (i := 3) rfl (by kernel_rfl) (by kernel_rfl) (Ho34.src (i := 0) rfl) sl53 ze44 nt53 (by decide) hb35) ?_
              rintro _ _ _ ⟨rfl, AN36, cN36, CN36, rfl, HN36, rfl⟩
              refine WL.rest 12 [0, 1, 2, 3, 11, 12] (L' := [(0, .pointer (some ⟨b0, 0, none⟩)), (1, .int .i64 a1), (2, .int .i64 a2), (3, .int .i64 a3), (11, .slice AN36 (y23 ++ ([t28] : List Int)).length cN36), (12, .int .i64 y24)]) (by kernel_rfl) ?_
              refine QP.blockN ?_
              refine QP.next ?_
              refine WP.pick [0, 1, 2, 3, 11, 12] ?_
              refine WP.regionP [0, 1, 2, 3, 11, 12] (L' := [(0, .pointer (some ⟨b0, 0, none⟩)), (1, .int .i64 a1), (2, .int .i64 a2), (3, .int .i64 a3), (11, .slice AN36 (y23 ++ ([t28] : List Int)).length cN36), (12, .int .i64 (IntKind.i64.wrap (y24 + 1)))]) (by kernel_rfl) ?_
              refine QP.dropAt 0 ?_
              refine QP.front (i := 1) rfl ?_
              refine QP.front (i := 1) rfl ?_
              refine QP.front (i := 2) rfl ?_
              refine QP.pick [0, 1, 2, 3, 11, 12] ?_
              exact QP.meet ⟨kn26, Nat.lt_succ_self _, (y23 ++ ([t28] : List Int)), (IntKind.i64.wrap (y24 + 1)), h, AN36, cN36, CN36, rfl, rfl, rfl, HN36⟩
            · replace hc := of_decide_eq_false hc
              rw [if_neg hc] at h
              have hc27 := hc
              clear hc
              refine WP.exit ?_
              refine QP.thenE ?_
              refine QP.thenE ?_
              refine QP.blockE ?_
              refine QP.pick [11] ?_
              exact QP.meet ⟨_, Option.some.inj h, Ay23, cy23, Cy23, rfl, rfl, rfl, Hy23⟩
        · rintro _ _ _ ⟨s21, rfl, As21, cs21, Cs21, rfl, rfl, rfl, Hs21⟩
          clear h
          replace h := hk22
          refine QP.next ?_
          refine WP.pick [11] ?_
          refine WP.seqR ?_
          refine WL.pure 0 1 [54] (L' := [(54, .slice As21 s21.length cs21)]) (by kernel_rfl) (by decide) ?_
          rw [Option.bind_eq_some_iff] at h
          obtain ⟨t37, ht38, h⟩ := h
          refine WL.op (op := .call { callee := (.value (.func 32)), args := #[(.tmp 54)], argTypes := #[53] }) (ty := 44) (d := some 55) (g := none) (by kernel_rfl) (by kernel_rfl) (by kernel_rfl) (Does.call (Φ := fun v' G' Γ' => v' = .int .u64 t37 ∧ G = G' ∧ Cs21 :: [(b0, .cells #[.slice Aa0_f0 a0.f0.length ca0_f0] 30 (0, 0))] :: Ca0_f0 :: Γ = Γ') (f := 32) (args := [.slice As21 s21.length cs21]) (by kernel_rfl) (fun W hI => (Calls.lendN (Φ := fun v' N => v' = .int .u64 t37 ∧ N = []) (H := []) (i := 0) rfl hI (fun _ e l41 nl41 hI => by subst e; exact (((grapevineref5_All_calls kf s21 As21 cs21 (Hs21.rdN l41 nl41) t37 ht38 hI)).mono fun _ _ hr => by obtain ⟨_, _, _, rfl, hd, hI⟩ := hr; obtain ⟨rfl, rfl, rfl⟩ := hd; exact ⟨_, _, _, rfl, ⟨[], ⟨rfl, rfl⟩, rfl, rfl⟩, hI⟩))).mono fun _ _ hr => by obtain ⟨_, _, _, rfl, ⟨_, hd, rfl, rfl⟩, hI⟩ := hr; obtain ⟨rfl, rfl⟩ := hd; exact ⟨_, _, _, rfl, ⟨rfl, rfl, rfl⟩, hI⟩)) ?_
          rintro _ _ _ ⟨rfl, rfl, rfl⟩
          refine WL.restQ 2 [8] (L' := [(8, .int .u64 t37)]) (by kernel_rfl) ?_
          refine WP.dropAt 0 ?_
          refine WP.ret ?_
          obtain rfl := Option.some.inj h
          exact QP.returned [8] [.int .u64 t37] _ (by kernel_rfl) (by kernel_rfl) (by kernel_rfl) (fun W hI => ⟨_, _, _, rfl, ⟨rfl, rfl, rfl⟩, hI⟩)
theorem grapevineref12_Tree_sum_calls {B : World} {G : GMap} {Γ : List Chunk} {W : World} (HT : Tabs B G) (k : Nat) (a0 : T30) (a1 : Int) (a2 : Int) (a3 : Int) (b0 : Nat) (Aa0_f0 : Option Addr) (ca0_f0 : Nat) (Ca0_f0 : Chunk) (Ha0_f0 : Ow k36 G Aa0_f0 ca0_f0 a0.f0 Ca0_f0) (r : Int) (h : grapevineref12_Tree_sum k a0 a1 a2 a3 = some r) (hI : Inv B G ([(b0, .cells #[.slice Aa0_f0 a0.f0.length ca0_f0] 30 (0, 0))] :: Ca0_f0 :: Γ) W) :
    Calls Tryd.prog 62 [.pointer (some ⟨b0, 0, none⟩), .int .i64 a1, .int .i64 a2, .int .i64 a3].toArray W (Ret B (fun v G' Γ' => v = .int .u64 r ∧ G = G' ∧ [(b0, .cells #[.slice Aa0_f0 a0.f0.length ca0_f0] 30 (0, 0))] :: Ca0_f0 :: Γ = Γ')) := grapevineref12_Tree_sum_calls_k k HT a0 a1 a2 a3 b0 Aa0_f0 ca0_f0 Ca0_f0 Ha0_f0 r h hI

/-! ### (*grapevine/grapevineref12.Tree).Sum: function 20 -/
def grapevineref12_Tree_Sum (k : Nat) (a0 : T30) (a1 : Int) (a2 : Int) (a3 : Int) : Option (Int × Bool) := ((grapevineref12_There k a1 a2 a3).bind fun t1 => (if (!t1) = true then some (0, false) else ((grapevineref12_Tree_sum k a0 a1 a2 a3).bind fun t6 => some (t6, true))))
set_option maxHeartbeats 4000000 in
theorem grapevineref12_Tree_Sum_calls {B : World} {G : GMap} {Γ : List Chunk} {W : World} (HT : Tabs B G) (k : Nat) (a0 : T30) (a1 : Int) (a2 : Int) (a3 : Int) (b0 : Nat) (Aa0_f0 : Option Addr) (ca0_f0 : Nat) (Ca0_f0 : Chunk) (Ha0_f0 : Ow k36 G Aa0_f0 ca0_f0 a0.f0 Ca0_f0) (r : Int × Bool) (h : grapevineref12_Tree_Sum k a0 a1 a2 a3 = some r) (hI : Inv B G ([(b0, .cells #[.slice Aa0_f0 a0.f0.length ca0_f0] 30 (0, 0))] :: Ca0_f0 :: Γ) W) :
    Calls Tryd.prog 20 [.pointer (some ⟨b0, 0, none⟩), .int .i64 a1, .int .i64 a2, .int .i64 a3].toArray W (Ret B (fun v G' Γ' => v = .tuple #[.int .u64 r.1, .bool r.2] ∧ G = G' ∧ [(b0, .cells #[.slice Aa0_f0 a0.f0.length ca0_f0] 30 (0, 0))] :: Ca0_f0 :: Γ = Γ')) := by
  refine calls_WP (Γ := [(b0, .cells #[.slice Aa0_f0 a0.f0.length ca0_f0] 30 (0, 0))] :: Ca0_f0 :: Γ) (G := G) (B := B) Tryd.func20 rfl (by kernel_rfl) ?_ hI
  clear hI
  unfold grapevineref12_Tree_Sum at h
  refine WP.seqP [0, 1, 2, 3] (L' := [(0, .pointer (some ⟨b0, 0, none⟩)), (1, .int .i64 a1), (2, .int .i64 a2), (3, .int .i64 a3)]) (by kernel_rfl) ?_
  refine WP.seq ?_
  refine WP.seqR ?_
  refine WL.pure 0 3 [0, 1, 2, 3, 10, 11, 12] (L' := [(0, .pointer (some ⟨b0, 0, none⟩)), (1, .int .i64 a1), (2, .int .i64 a2), (3, .int .i64 a3), (10, .int .i64 a1), (11, .int .i64 a2), (12, .int .i64 a3)]) (by kernel_rfl) (by decide) ?_
  rw [Option.bind_eq_some_iff] at h
  obtain ⟨t1, ht2, h⟩ := h
  refine WL.op (op := .call { callee := (.value (.func 61)), args := #[(.tmp 10), (.tmp 11), (.tmp 12)], argTypes := #[3, 3, 3] }) (ty := 4) (d := some 13) (g := none) (by kernel_rfl) (by kernel_rfl) (by kernel_rfl) (Does.call (f := 61) (args := [.int .i64 a1, .int .i64 a2, .int .i64 a3]) (by kernel_rfl) (fun W hI => (grapevineref12_There_calls k a1 a2 a3  t1 ht2 hI))) ?_
  rintro _ _ _ ⟨rfl, rfl, rfl⟩
  refine WL.restQ 4 [0, 1, 2, 3, 14] (L' := [(0, .pointer (some ⟨b0, 0, none⟩)), (1, .int .i64 a1), (2, .int .i64 a2), (3, .int .i64 a3), (14, .bool (!t1))]) (by kernel_rfl) ?_
  refine WP.cond (b := (!t1)) (by kernel_rfl) (fun hc => ?_) (fun hc => ?_)
  · replace hc := hc
    rw [if_pos hc] at h
    have hc5 := hc
    clear hc
    refine WP.seqP [8, 9] (L' := [(8, .int .u64 0), (9, .bool false)]) (by kernel_rfl) ?_
    refine WP.ret ?_
    refine QP.thenR ?_
    obtain rfl := Option.some.inj h
    exact QP.returned [8, 9] [.int .u64 0, .bool false] _ (by kernel_rfl) (by kernel_rfl) (by kernel_rfl) (fun W hI => ⟨_, _, _, rfl, ⟨rfl, rfl, rfl⟩, hI⟩)
  · replace hc := (Bool.eq_false_iff.1 hc)
    rw [if_neg hc] at h
    have hc5 := hc
    clear hc
    refine WP.skip ?_
    refine QP.next ?_
    refine WP.pick [0, 1, 2, 3] ?_
    refine WP.seqR ?_
    refine WL.pure 0 4 [15, 16, 17, 18] (L' := [(15, .pointer (some ⟨b0, 0, none⟩)), (16, .int .i64 a1), (17, .int .i64 a2), (18, .int .i64 a3)]) (by kernel_rfl) (by decide) ?_
    refine WL.front (i := 1) rfl ?_
    refine WL.front (i := 1) rfl ?_
    rw [Option.bind_eq_some_iff] at h
    obtain ⟨t6, ht7, h⟩ := h
    refine WL.op (op := .call { callee := (.value (.func 62)), args := #[(.tmp 15), (.tmp 16), (.tmp 17), (.tmp 18)], argTypes := #[27, 3, 3, 3] }) (ty := 44) (d := some 19) (g := none) (by kernel_rfl) (by kernel_rfl) (by kernel_rfl) (Does.call (f := 62) (args := [.pointer (some ⟨b0, 0, none⟩), .int .i64 a1, .int .i64 a2, .int .i64 a3]) (by kernel_rfl) (fun W hI => (grapevineref12_Tree_sum_calls HT k a0 a1 a2 a3 b0 Aa0_f0 ca0_f0 Ca0_f0 Ha0_f0 t6 ht7 hI))) ?_
    rintro _ _ _ ⟨rfl, rfl, rfl⟩
    refine WL.restQ 5 [8, 9] (L' := [(8, .int .u64 t6), (9, .bool true)]) (by kernel_rfl) ?_
    refine WP.ret ?_
    obtain rfl := Option.some.inj h
    exact QP.returned [8, 9] [.int .u64 t6, .bool true] _ (by kernel_rfl) (by kernel_rfl) (by kernel_rfl) (fun W hI => ⟨_, _, _, rfl, ⟨rfl, rfl, rfl⟩, hI⟩)

/-! ### (*grapevine/grapevineref12.Tree).Root: function 23 -/
def grapevineref12_Tree_Root_l0 (a0 : T30) : Nat → (List Int) → Int → Option (List Int)
  | 0, _, _ => none
  | k + 1, y3, y4 => (if y4 < 8 then ((grapevineref12_Tree_sum k a0 y4 0 0).bind fun t8 => (if y3.length + ([t8] : List Int).length ≤ 1073741824 then grapevineref12_Tree_Root_l0 a0 k (y3 ++ ([t8] : List Int)) (IntKind.i64.wrap (y4 + 1)) else none)) else some y3)
def grapevineref12_Tree_Root (k : Nat) (a0 : T30) : Option Int := ((grapevineref12_Tree_Root_l0 a0 k ([] : List Int) 0).bind fun s1 => ((grapevineref5_All k s1).bind fun t17 => some t17))
set_option maxHeartbeats 4000000 in
theorem grapevineref12_Tree_Root_calls {B : World} {G : GMap} {Γ : List Chunk} {W : World} (HT : Tabs B G) (k : Nat) (a0 : T30) (b0 : Nat) (Aa0_f0 : Option Addr) (ca0_f0 : Nat) (Ca0_f0 : Chunk) (Ha0_f0 : Ow k36 G Aa0_f0 ca0_f0 a0.f0 Ca0_f0) (r : Int) (h : grapevineref12_Tree_Root k a0 = some r) (hI : Inv B G ([(b0, .cells #[.slice Aa0_f0 a0.f0.length ca0_f0] 30 (0, 0))] :: Ca0_f0 :: Γ) W) :
    Calls Tryd.prog 23 [.pointer (some ⟨b0, 0, none⟩)].toArray W (Ret B (fun v G' Γ' => v = .int .u64 r ∧ G = G' ∧ [(b0, .cells #[.slice Aa0_f0 a0.f0.length ca0_f0] 30 (0, 0))] :: Ca0_f0 :: Γ = Γ')) := by
  refine calls_WP (Γ := [(b0, .cells #[.slice Aa0_f0 a0.f0.length ca0_f0] 30 (0, 0))] :: Ca0_f0 :: Γ) (G := G) (B := B) Tryd.func23 rfl (by kernel_rfl) ?_ hI
  clear hI
  unfold grapevineref12_Tree_Root at h
  refine WP.seqP [0] (L' := [(0, .pointer (some ⟨b0, 0, none⟩))]) (by kernel_rfl) ?_
  refine WP.seqP [0, 3] (L' := [(0, .pointer (some ⟨b0, 0, none⟩)), (3, .slice none 0 0)]) (by kernel_rfl) ?_
  refine WP.seq ?_
  refine WP.seqP [0, 3, 4] (L' := [(0, .pointer (some ⟨b0, 0, none⟩)), (3, .slice none 0 0), (4, .int .i64 0)]) (by kernel_rfl) ?_
  rw [Option.bind_eq_some_iff] at h
  obtain ⟨os1, h, hk2⟩ := h
  refine WP.cutQ (fun L' G' Γ' => ∃ s1 : (List Int), s1 = os1 ∧ ∃ (As1 : Option Addr), ∃ (cs1 : Nat), ∃ (Cs1 : Chunk), L' = [(3, .slice As1 s1.length cs1)] ∧ G = G' ∧ Cs1 :: [(b0, .cells #[.slice Aa0_f0 a0.f0.length ca0_f0] 30 (0, 0))] :: Ca0_f0 :: Γ = Γ' ∧ Ow (kInt .u64) G As1 cs1 s1 Cs1) ?_ ?_
  · clear hk2
    refine WP.block ?_
    refine WP.addNil ?_
    refine WP.pick [0, 3, 4] ?_
    refine WP.loopF (fun kn5 L' G' Γ' => ∃ (y3 : List Int), ∃ (y4 : Int), grapevineref12_Tree_Root_l0 a0 kn5 y3 y4 = some os1 ∧ ∃ (Ay3 : Option Addr), ∃ (cy3 : Nat), ∃ (Cy3 : Chunk), L' = [(0, .pointer (some ⟨b0, 0, none⟩)), (3, .slice Ay3 y3.length cy3), (4, .int .i64 y4)] ∧ G = G' ∧ Cy3 :: [(b0, .cells #[.slice Aa0_f0 a0.f0.length ca0_f0] 30 (0, 0))] :: Ca0_f0 :: Γ = Γ' ∧ Ow (kInt .u64) G Ay3 cy3 y3 Cy3) ?_ k ⟨([] : List Int), 0, h, none, 0, [], rfl, rfl, rfl, (Ow.nil (kInt .u64) _)⟩
    clear h
    rintro kn6 _ _ _ ⟨y3, y4, h, Ay3, cy3, Cy3, rfl, rfl, rfl, Hy3⟩
    cases kn6 with
    | zero => exact absurd h (by simp [grapevineref12_Tree_Root_l0])
    | succ kn6 =>
      simp only [grapevineref12_Tree_Root_l0] at h
      refine WP.seq ?_
      refine WP.seqP [0, 3, 4, 6] (L' := [(0, .pointer (some ⟨b0, 0, none⟩)), (3, .slice Ay3 y3.length cy3), (4, .int .i64 y4), (6, .bool (decide (y4 < 8)))]) (by kernel_rfl) ?_
      refine WP.cond (b := decide (y4 < 8)) (by kernel_rfl) (fun hc => ?_) (fun hc => ?_)
      · replace hc := of_decide_eq_true hc
        rw [if_pos hc] at h
        have hc7 := hc
        clear hc
        refine WP.skip ?_
        refine QP.next ?_
        refine WP.pick [0, 3, 4] ?_
        refine WP.seq ?_
        refine WP.block ?_
        refine WP.region ?_
        refine WL.pure 0 3 [0, 3, 4, 9, 10, 11] (L' := [(0, .pointer (some ⟨b0, 0, none⟩)), (3, .slice Ay3 y3.length cy3), (4, .int .i64 y4), (9, .slice Ay3 y3.length cy3), (10, .pointer (some ⟨b0, 0, none⟩)), (11, .int .i64 y4)]) (by kernel_rfl) (by decide) ?_
        refine WL.front (i := 2) rfl ?_
        refine WL.front (i := 2) rfl ?_
        rw [Option.bind_eq_some_iff] at h
        obtain ⟨t8, ht9, h⟩ := h
        refine WL.op (op := .call { callee := (.value (.func 62)), args := #[(.tmp 10), (.tmp 11), (.const (.int .i64 0)), (.const (.int .i64 0))], argTypes := #[27, 3, 3, 3] }) (ty := 44) (d := some 12) (g := none) (by kernel_rfl) (by kernel_rfl) (by kernel_rfl) (Does.call (f := 62) (args := [.pointer (some ⟨b0, 0, none⟩), .int .i64 y4, .int .i64 0, .int .i64 0]) (by kernel_rfl) (fun W hI => (grapevineref12_Tree_sum_calls HT kn6 a0 y4 0 0 b0 Aa0_f0 ca0_f0 Ca0_f0 Ha0_f0 t8 ht9 hI))) ?_
        rintro _ _ _ ⟨rfl, rfl, rfl⟩
        refine WL.op (op := .buildSlice 53 1 #[(0, (.tmp 12))]) (ty := 53) (d := some 13) (g := none) (by kernel_rfl) (by kernel_rfl) (by kernel_rfl) (Does.new (o := .cells #[.int .u64 t8] 44 (0, 0)) (v := fun r => .slice (some ⟨r, 0, none⟩) 1 1) (fun r => by kernel_rfl)) ?_
        rintro _ _ _ ⟨b12, rfl, rfl, rfl⟩
        have Ho14 : Ow (kInt .u64) G (some ⟨b12, 0, none⟩) 1 ([t8] : List Int) [(b12, .cells #[.int .u64 t8] 44 (0, 0))] := Ow.lit (kd := (kInt .u64)) (G := G) (b := b12) (T := 44) (xs := ([t8] : List Int)) (cs := [.int .u64 t8]) (.cons (x := t8) (cs := [.int .u64 t8]) (by exact rfl) .nil)
        by_cases hb15 : y3.length + ([t8] : List Int).length ≤ 1073741824
        case neg => rw [if_neg hb15] at h; cases h
        rw [if_pos hb15] at h
        refine WL.op (op := .call { callee := (.builtin .append), args := #[(.tmp 9), (.tmp 13)], argTypes := #[53, 53] }) (ty := 53) (d := some 14) (g := none) (by kernel_rfl) (by kernel_rfl) (by kernel_rfl) (Ow.append (ys := ([t8] : List Int)) (v := .slice (some ⟨b12, 0, none⟩) ([t8] : List Int).length 1) Hy3 (i := 3) rfl (by kernel_rfl) (by kernel_rfl) (Ho14.src (i := 0) rfl) sl53 ze44 nt53 (by decide) hb15) ?_
        rintro _ _ _ ⟨rfl, AN16, cN16, CN16, rfl, HN16, rfl⟩
        refine WL.rest 6 [0, 3, 4] (L' := [(0, .pointer (some ⟨b0, 0, none⟩)), (3, .slice AN16 (y3 ++ ([t8] : List Int)).length cN16), (4, .int .i64 y4)]) (by kernel_rfl) ?_
        refine QP.blockN ?_
        refine QP.next ?_
        refine WP.pick [0, 3, 4] ?_
        refine WP.regionP [0, 3, 4] (L' := [(0, .pointer (some ⟨b0, 0, none⟩)), (3, .slice AN16 (y3 ++ ([t8] : List Int)).length cN16), (4, .int .i64 (IntKind.i64.wrap (y4 + 1)))]) (by kernel_rfl) ?_
        refine QP.dropAt 0 ?_
        refine QP.front (i := 1) rfl ?_
        refine QP.front (i := 1) rfl ?_
        refine QP.front (i := 2) rfl ?_
        refine QP.pick [0, 3, 4] ?_
        exact QP.meet ⟨kn6, Nat.lt_succ_self _, (y3 ++ ([t8] : List Int)), (IntKind.i64.wrap (y4 + 1)), h, AN16, cN16, CN16, rfl, rfl, rfl, HN16⟩
      · replace hc := of_decide_eq_false hc
        rw [if_neg hc] at h
        have hc7 := hc
        clear hc
        refine WP.exit ?_
        refine QP.thenE ?_
        refine QP.thenE ?_
        refine QP.blockE ?_
        refine QP.pick [3] ?_
        exact QP.meet ⟨_, Option.some.inj h, Ay3, cy3, Cy3, rfl, rfl, rfl, Hy3⟩
  · rintro _ _ _ ⟨s1, rfl, As1, cs1, Cs1, rfl, rfl, rfl, Hs1⟩
    clear h
    replace h := hk2
    refine QP.next ?_
    refine WP.pick [3] ?_
    refine WP.seqR ?_
    refine WL.pure 0 1 [15] (L' := [(15, .slice As1 s1.length cs1)]) (by kernel_rfl) (by decide) ?_
    rw [Option.bind_eq_some_iff] at h
    obtain ⟨t17, ht18, h⟩ := h
    refine WL.op (op := .call { callee := (.value (.func 32)), args := #[(.tmp 15)], argTypes := #[53] }) (ty := 44) (d := some 16) (g := none) (by kernel_rfl) (by kernel_rfl) (by kernel_rfl) (Does.call (Φ := fun v' G' Γ' => v' = .int .u64 t17 ∧ G = G' ∧ Cs1 :: [(b0, .cells #[.slice Aa0_f0 a0.f0.length ca0_f0] 30 (0, 0))] :: Ca0_f0 :: Γ = Γ') (f := 32) (args := [.slice As1 s1.length cs1]) (by kernel_rfl) (fun W hI => (Calls.lendN (Φ := fun v' N => v' = .int .u64 t17 ∧ N = []) (H := []) (i := 0) rfl hI (fun _ e l21 nl21 hI => by subst e; exact (((grapevineref5_All_calls k s1 As1 cs1 (Hs1.rdN l21 nl21) t17 ht18 hI)).mono fun _ _ hr => by obtain ⟨_, _, _, rfl, hd, hI⟩ := hr; obtain ⟨rfl, rfl, rfl⟩ := hd; exact ⟨_, _, _, rfl, ⟨[], ⟨rfl, rfl⟩, rfl, rfl⟩, hI⟩))).mono fun _ _ hr => by obtain ⟨_, _, _, rfl, ⟨_, hd, rfl, rfl⟩, hI⟩ := hr; obtain ⟨rfl, rfl⟩ := hd; exact ⟨_, _, _, rfl, ⟨rfl, rfl, rfl⟩, hI⟩)) ?_
    rintro _ _ _ ⟨rfl, rfl, rfl⟩
    refine WL.restQ 2 [2] (L' := [(2, .int .u64 t17)]) (by kernel_rfl) ?_
    refine WP.dropAt 0 ?_
    refine WP.ret ?_
    obtain rfl := Option.some.inj h
    exact QP.returned [2] [.int .u64 t17] _ (by kernel_rfl) (by kernel_rfl) (by kernel_rfl) (fun W hI => ⟨_, _, _, rfl, ⟨rfl, rfl, rfl⟩, hI⟩)
end Go.Proofs.YtajhihpaccggdaaDoor.Gf
