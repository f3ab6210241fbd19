/- Walks of Go functions: what each tells, as a plain Lean function, and that the Go code comes to it. Written by gg.py of this repo. -/
import Derived.Test.YtbphlohiealbeaaDoorT
import Derived.Test.YtbphlohiealbeaaDoorF0
namespace Go.Proofs.YtbphlohiealbeaaDoor.Gf
open Go Go.Gg
set_option maxRecDepth 100000
set_option linter.unusedVariables false
set_option linter.unusedSimpArgs false

/-! ### grapevine/grapevineref14.Deep: function 51 -/
def grapevineref14_Deep_l0 (a0 : T25) (rec_ : T25 → Option Int) : Nat → Int → Int → Option Int
  | 0, _, _ => none
  | k + 1, y4, y5 => (if y5 < (a0.f3.length : Int) then (if 0 ≤ y5 ∧ y5 < (a0.f3.length : Int) then ((rec_ (a0.f3.getD y5.toNat z25)).bind fun t12 => grapevineref14_Deep_l0 a0 rec_ k (if t12 > y4 then t12 else y4) (IntKind.i64.wrap (y5 + 1))) else none) else some y4)
def grapevineref14_Deep : Nat → T25 → Option Int
  | 0, _ => none
  | k + 1, a0 => ((grapevineref14_Deep_l0 a0 (grapevineref14_Deep k) k 0 0).bind fun s2 => some (IntKind.i64.wrap (s2 + 1)))
set_option maxHeartbeats 4000000 in
theorem grapevineref14_Deep_calls_k (k : Nat) : ∀ {B : World} {G : GMap} {Γ : List Chunk} {W : World} (a0 : T25) (Aa0_f2 : Option Addr) (ca0_f2 : Nat) (Ha0_f2 : Rd kStr G Aa0_f2 ca0_f2 a0.f2) (Aa0_f3 : Option Addr) (ca0_f3 : Nat) (Ha0_f3 : Rd k25 G Aa0_f3 ca0_f3 a0.f3) (r : Int) (h : grapevineref14_Deep k a0 = some r) (hI : Inv B G (Γ) W),
    Calls Tryd.prog 51 [.agg #[.int .i64 a0.f0, .int .i64 a0.f1, .slice Aa0_f2 a0.f2.length ca0_f2, .slice Aa0_f3 a0.f3.length ca0_f3]].toArray W (Ret B (fun v G' Γ' => v = .int .i64 r ∧ G = G' ∧ Γ = Γ')) := by
  induction k with
  | zero => intro B G Γ W a0 Aa0_f2 ca0_f2 Ha0_f2 Aa0_f3 ca0_f3 Ha0_f3 r h hI; exact absurd h (by simp [grapevineref14_Deep])
  | succ kf ih =>
    intro B G Γ W a0 Aa0_f2 ca0_f2 Ha0_f2 Aa0_f3 ca0_f3 Ha0_f3 r h hI
    refine calls_WP (Γ := Γ) (G := G) (B := B) Tryd.func51 rfl (by kernel_rfl) ?_ hI
    clear hI
    simp only [grapevineref14_Deep] at h
    refine WP.seqR ?_
    refine WL.op (op := .box 25 (.tmp 0)) (ty := 0) (d := some 1) (g := none) (by kernel_rfl) (by kernel_rfl) (by kernel_rfl) (Does.new (o := .cells #[.int .i64 a0.f0, .int .i64 a0.f1, .slice Aa0_f2 a0.f2.length ca0_f2, .slice Aa0_f3 a0.f3.length ca0_f3] 25 (0, 0)) (v := fun r => .pointer (some ⟨r, 0, none⟩)) (fun r => by kernel_rfl)) ?_
    rintro _ _ _ ⟨b1, rfl, rfl, rfl⟩
    refine WL.restQ 1 [1] (L' := [(1, .pointer (some ⟨b1, 0, none⟩))]) (by kernel_rfl) ?_
    refine WP.seqP [1, 3] (L' := [(1, .pointer (some ⟨b1, 0, none⟩)), (3, .int .i64 0)]) (by kernel_rfl) ?_
    refine WP.seq ?_
    refine WP.seqP [1, 3, 4] (L' := [(1, .pointer (some ⟨b1, 0, none⟩)), (3, .int .i64 0), (4, .int .i64 0)]) (by kernel_rfl) ?_
    rw [Option.bind_eq_some_iff] at h
    obtain ⟨os2, h, hk3⟩ := h
    refine WP.cutQ (fun L' G' Γ' => ∃ s2 : Int, s2 = os2 ∧ L' = [(3, .int .i64 s2)] ∧ G = G' ∧ Γ = Γ') ?_ ?_
    · clear hk3
      refine WP.block ?_
      refine WP.pick [1, 3, 4] ?_
      refine WP.loopF (fun kn6 L' G' Γ' => ∃ (y4 : Int), ∃ (y5 : Int), grapevineref14_Deep_l0 a0 (grapevineref14_Deep kf) kn6 y4 y5 = some os2 ∧ L' = [(1, .pointer (some ⟨b1, 0, none⟩)), (3, .int .i64 y4), (4, .int .i64 y5)] ∧ G = G' ∧ [(b1, .cells #[.int .i64 a0.f0, .int .i64 a0.f1, .slice Aa0_f2 a0.f2.length ca0_f2, .slice Aa0_f3 a0.f3.length ca0_f3] 25 (0, 0))] :: Γ = Γ') ?_ kf ⟨0, 0, h, rfl, rfl, rfl⟩
      clear h
      rintro kn7 _ _ _ ⟨y4, y5, h, rfl, rfl, rfl⟩
      cases kn7 with
      | zero => exact absurd h (by simp [grapevineref14_Deep_l0])
      | succ kn7 =>
        simp only [grapevineref14_Deep_l0] at h
        refine WP.seq ?_
        refine WP.seqR ?_
        refine WL.pure 0 2 [1, 3, 4, 5, 6] (L' := [(1, .pointer (some ⟨b1, 0, none⟩)), (3, .int .i64 y4), (4, .int .i64 y5), (5, .int .i64 y5), (6, .pointer (some ⟨b1, 3, none⟩))]) (by kernel_rfl) (by decide) ?_
        refine WL.tell (op := .load 23 (.tmp 6)) (ty := 23) (d := some 7) (g := none) (by kernel_rfl) (by kernel_rfl) (by kernel_rfl) (Tells.load_box (i := 0) (b := b1) (o := 3) (agg := false) (by rfl) ag23 (by kernel_rfl) (fun _ => rfl) (Nat.le_of_ble_eq_true rfl) (v := .slice Aa0_f3 a0.f3.length ca0_f3) (by kernel_rfl)) ?_
        refine WL.restQ 3 [1, 3, 4, 9] (L' := [(1, .pointer (some ⟨b1, 0, none⟩)), (3, .int .i64 y4), (4, .int .i64 y5), (9, .bool (decide (y5 < (a0.f3.length : Int))))]) (by kernel_rfl) ?_
        refine WP.cond (b := decide (y5 < (a0.f3.length : Int))) (by kernel_rfl) (fun hc => ?_) (fun hc => ?_)
        · replace hc := of_decide_eq_true hc
          rw [if_pos hc] at h
          have hc8 := hc
          clear hc
          refine WP.skip ?_
          refine QP.next ?_
          refine WP.pick [1, 3, 4] ?_
          refine WP.seq ?_
          refine WP.block ?_
          refine WP.region ?_
          refine WL.pure 0 2 [1, 3, 4, 12, 13] (L' := [(1, .pointer (some ⟨b1, 0, none⟩)), (3, .int .i64 y4), (4, .int .i64 y5), (12, .int .i64 y4), (13, .pointer (some ⟨b1, 3, none⟩))]) (by kernel_rfl) (by decide) ?_
          refine WL.tell (op := .load 23 (.tmp 13)) (ty := 23) (d := some 14) (g := none) (by kernel_rfl) (by kernel_rfl) (by kernel_rfl) (Tells.load_box (i := 0) (b := b1) (o := 3) (agg := false) (by rfl) ag23 (by kernel_rfl) (fun _ => rfl) (Nat.le_of_ble_eq_true rfl) (v := .slice Aa0_f3 a0.f3.length ca0_f3) (by kernel_rfl)) ?_
          refine WL.pure 3 4 [1, 3, 4, 12, 14, 15] (L' := [(1, .pointer (some ⟨b1, 0, none⟩)), (3, .int .i64 y4), (4, .int .i64 y5), (12, .int .i64 y4), (14, .slice Aa0_f3 a0.f3.length ca0_f3), (15, .int .i64 y5)]) (by kernel_rfl) (by decide) ?_
          by_cases hb9 : 0 ≤ y5 ∧ y5 < (a0.f3.length : Int)
          case neg => rw [if_neg hb9] at h; cases h
          rw [if_pos hb9] at h
          refine WL.tell (op := .indexAddr 23 (.tmp 14) (.tmp 15)) (ty := 0) (d := some 16) (g := none) (by kernel_rfl) (by kernel_rfl) (by kernel_rfl) (Tells.indexAddr (A := Aa0_f3) (n := a0.f3.length) (c := ca0_f3) (k := .i64) (j := y5) (by kernel_rfl) (by kernel_rfl) (Ha0_f3.isSome hb9.1 hb9.2) hb9.1 hb9.2 sl23) ?_
          refine WL.tellE (op := .load 25 (.tmp 16)) (ty := 25) (d := some 17) (g := none) (by kernel_rfl) (by kernel_rfl) (by kernel_rfl) (Ha0_f3.load (agg := true) hb9.1 hb9.2 z25 ag25 (fun h => by cases h) (by kernel_rfl)) ?_
          rintro _ hrel
          obtain ⟨_, _, rfl, rfl, ⟨_, _, rfl, rfl, ⟨_, _, rfl, ⟨Ae10, ce10, rfl, He10⟩, ⟨Ae11, ce11, rfl, He11⟩⟩⟩⟩ := k25_out hrel
          replace He10 : Rd kStr G Ae10 ce10 ((a0.f3.getD y5.toNat z25).f2) := He10
          replace He11 : Rd k25 G Ae11 ce11 ((a0.f3.getD y5.toNat z25).f3) := He11
          rw [Option.bind_eq_some_iff] at h
          obtain ⟨t12, ht13, h⟩ := h
          refine WL.op (op := .call { callee := (.value (.func 51)), args := #[(.tmp 17)], argTypes := #[25] }) (ty := 3) (d := some 18) (g := none) (by kernel_rfl) (by kernel_rfl) (by kernel_rfl) (Does.call (f := 51) (args := [.agg #[.int .i64 ((a0.f3.getD y5.toNat z25).f0), .int .i64 ((a0.f3.getD y5.toNat z25).f1), .slice Ae10 ((a0.f3.getD y5.toNat z25).f2).length ce10, .slice Ae11 ((a0.f3.getD y5.toNat z25).f3).length ce11]]) (by kernel_rfl) (fun W hI => (ih (a0.f3.getD y5.toNat z25) Ae10 ce10 He10 Ae11 ce11 He11 t12 ht13 hI))) ?_
          rintro _ _ _ ⟨rfl, rfl, rfl⟩
          refine WL.rest 7 [1, 3, 4] (L' := [(1, .pointer (some ⟨b1, 0, none⟩)), (3, .int .i64 (if t12 > y4 then t12 else y4)), (4, .int .i64 y5)]) (by kernel_rfl) ?_
          refine QP.blockN ?_
          refine QP.next ?_
          refine WP.pick [1, 3, 4] ?_
          refine WP.regionP [1, 3, 4] (L' := [(1, .pointer (some ⟨b1, 0, none⟩)), (3, .int .i64 (if t12 > y4 then t12 else y4)), (4, .int .i64 (IntKind.i64.wrap (y5 + 1)))]) (by kernel_rfl) ?_
          refine QP.pick [1, 3, 4] ?_
          exact QP.meet ⟨kn7, Nat.lt_succ_self _, (if t12 > y4 then t12 else y4), (IntKind.i64.wrap (y5 + 1)), h, rfl, rfl, rfl⟩
        · replace hc := of_decide_eq_false hc
          rw [if_neg hc] at h
          have hc8 := hc
          clear hc
          refine WP.exit ?_
          refine QP.thenE ?_
          refine QP.thenE ?_
          refine QP.blockE ?_
          refine QP.dropAt 0 ?_
          refine QP.pick [3] ?_
          exact QP.meet ⟨_, Option.some.inj h, rfl, rfl, rfl⟩
    · rintro _ _ _ ⟨s2, rfl, rfl, rfl, rfl⟩
      clear h
      replace h := hk3
      refine QP.next ?_
      refine WP.pick [3] ?_
      refine WP.seqP [2] (L' := [(2, .int .i64 (IntKind.i64.wrap (s2 + 1)))]) (by kernel_rfl) ?_
      refine WP.ret ?_
      obtain rfl := Option.some.inj h
      exact QP.returned [2] [.int .i64 (IntKind.i64.wrap (s2 + 1))] _ (by kernel_rfl) (by kernel_rfl) (by kernel_rfl) (fun W hI => ⟨_, _, _, rfl, ⟨rfl, rfl, rfl⟩, hI⟩)
theorem grapevineref14_Deep_calls {B : World} {G : GMap} {Γ : List Chunk} {W : World} (k : Nat) (a0 : T25) (Aa0_f2 : Option Addr) (ca0_f2 : Nat) (Ha0_f2 : Rd kStr G Aa0_f2 ca0_f2 a0.f2) (Aa0_f3 : Option Addr) (ca0_f3 : Nat) (Ha0_f3 : Rd k25 G Aa0_f3 ca0_f3 a0.f3) (r : Int) (h : grapevineref14_Deep k a0 = some r) (hI : Inv B G (Γ) W) :
    Calls Tryd.prog 51 [.agg #[.int .i64 a0.f0, .int .i64 a0.f1, .slice Aa0_f2 a0.f2.length ca0_f2, .slice Aa0_f3 a0.f3.length ca0_f3]].toArray W (Ret B (fun v G' Γ' => v = .int .i64 r ∧ G = G' ∧ Γ = Γ')) := grapevineref14_Deep_calls_k k a0 Aa0_f2 ca0_f2 Ha0_f2 Aa0_f3 ca0_f3 Ha0_f3 r h hI

/-! ### grapevine/grapevineref14.Terms: function 52 -/
def grapevineref14_Terms_l0 (a0 : T25) (rec_ : T25 → Option Int) : Nat → Int → Int → Option Int
  | 0, _, _ => none
  | k + 1, y5, y6 => (if y6 < (a0.f3.length : Int) then (if 0 ≤ y6 ∧ y6 < (a0.f3.length : Int) then ((rec_ (a0.f3.getD y6.toNat z25)).bind fun t13 => grapevineref14_Terms_l0 a0 rec_ k (IntKind.i64.wrap (y5 + t13)) (IntKind.i64.wrap (y6 + 1))) else none) else some y5)
def grapevineref14_Terms : Nat → T25 → Option Int
  | 0, _ => none
  | k + 1, a0 => (if (a0.f3.length : Int) = 0 then some (if 1 > (a0.f2.length : Int) then 1 else (a0.f2.length : Int)) else ((grapevineref14_Terms_l0 a0 (grapevineref14_Terms k) k 0 0).bind fun s3 => some s3))
set_option maxHeartbeats 4000000 in
theorem grapevineref14_Terms_calls_k (k : Nat) : ∀ {B : World} {G : GMap} {Γ : List Chunk} {W : World} (a0 : T25) (Aa0_f2 : Option Addr) (ca0_f2 : Nat) (Ha0_f2 : Rd kStr G Aa0_f2 ca0_f2 a0.f2) (Aa0_f3 : Option Addr) (ca0_f3 : Nat) (Ha0_f3 : Rd k25 G Aa0_f3 ca0_f3 a0.f3) (r : Int) (h : grapevineref14_Terms k a0 = some r) (hI : Inv B G (Γ) W),
    Calls Tryd.prog 52 [.agg #[.int .i64 a0.f0, .int .i64 a0.f1, .slice Aa0_f2 a0.f2.length ca0_f2, .slice Aa0_f3 a0.f3.length ca0_f3]].toArray W (Ret B (fun v G' Γ' => v = .int .i64 r ∧ G = G' ∧ Γ = Γ')) := by
  induction k with
  | zero => intro B G Γ W a0 Aa0_f2 ca0_f2 Ha0_f2 Aa0_f3 ca0_f3 Ha0_f3 r h hI; exact absurd h (by simp [grapevineref14_Terms])
  | succ kf ih =>
    intro B G Γ W a0 Aa0_f2 ca0_f2 Ha0_f2 Aa0_f3 ca0_f3 Ha0_f3 r h hI
    refine calls_WP (Γ := Γ) (G := G) (B := B) Tryd.func52 rfl (by kernel_rfl) ?_ hI
    clear hI
    simp only [grapevineref14_Terms] at h
    refine WP.seqR ?_
    refine WL.op (op := .box 25 (.tmp 0)) (ty := 0) (d := some 1) (g := none) (by kernel_rfl) (by kernel_rfl) (by kernel_rfl) (Does.new (o := .cells #[.int .i64 a0.f0, .int .i64 a0.f1, .slice Aa0_f2 a0.f2.length ca0_f2, .slice Aa0_f3 a0.f3.length ca0_f3] 25 (0, 0)) (v := fun r => .pointer (some ⟨r, 0, none⟩)) (fun r => by kernel_rfl)) ?_
    rintro _ _ _ ⟨b1, rfl, rfl, rfl⟩
    refine WL.restQ 1 [1] (L' := [(1, .pointer (some ⟨b1, 0, none⟩))]) (by kernel_rfl) ?_
    refine WP.seq ?_
    refine WP.seqR ?_
    refine WL.pure 0 1 [1, 5] (L' := [(1, .pointer (some ⟨b1, 0, none⟩)), (5, .pointer (some ⟨b1, 3, none⟩))]) (by kernel_rfl) (by decide) ?_
    refine WL.tell (op := .load 23 (.tmp 5)) (ty := 23) (d := some 6) (g := none) (by kernel_rfl) (by kernel_rfl) (by kernel_rfl) (Tells.load_box (i := 0) (b := b1) (o := 3) (agg := false) (by rfl) ag23 (by kernel_rfl) (fun _ => rfl) (Nat.le_of_ble_eq_true rfl) (v := .slice Aa0_f3 a0.f3.length ca0_f3) (by kernel_rfl)) ?_
    refine WL.restQ 2 [1, 8] (L' := [(1, .pointer (some ⟨b1, 0, none⟩)), (8, .bool ((a0.f3.length : Int) == 0))]) (by kernel_rfl) ?_
    refine WP.cond (b := ((a0.f3.length : Int) == 0)) (by kernel_rfl) (fun hc => ?_) (fun hc => ?_)
    · replace hc := eq_of_beq hc
      rw [if_pos hc] at h
      have hc2 := hc
      clear hc
      refine WP.seqR ?_
      refine WL.pure 0 1 [9] (L' := [(9, .pointer (some ⟨b1, 2, none⟩))]) (by kernel_rfl) (by decide) ?_
      refine WL.tell (op := .load 22 (.tmp 9)) (ty := 22) (d := some 10) (g := none) (by kernel_rfl) (by kernel_rfl) (by kernel_rfl) (Tells.load_box (i := 0) (b := b1) (o := 2) (agg := false) (by rfl) ag22 (by kernel_rfl) (fun _ => rfl) (Nat.le_of_ble_eq_true rfl) (v := .slice Aa0_f2 a0.f2.length ca0_f2) (by kernel_rfl)) ?_
      refine WL.restQ 2 [2] (L' := [(2, .int .i64 (if 1 > (a0.f2.length : Int) then 1 else (a0.f2.length : Int)))]) (by kernel_rfl) ?_
      refine WP.dropAt 0 ?_
      refine WP.ret ?_
      refine QP.thenR ?_
      obtain rfl := Option.some.inj h
      exact QP.returned [2] [.int .i64 (if 1 > (a0.f2.length : Int) then 1 else (a0.f2.length : Int))] _ (by kernel_rfl) (by kernel_rfl) (by kernel_rfl) (fun W hI => ⟨_, _, _, rfl, ⟨rfl, rfl, rfl⟩, hI⟩)
    · replace hc := ne_of_beq_false hc
      rw [if_neg hc] at h
      have hc2 := hc
      clear hc
      refine WP.skip ?_
      refine QP.next ?_
      refine WP.pick [1] ?_
      refine WP.seqP [1, 3] (L' := [(1, .pointer (some ⟨b1, 0, none⟩)), (3, .int .i64 0)]) (by kernel_rfl) ?_
      refine WP.seq ?_
      refine WP.seqP [1, 3, 4] (L' := [(1, .pointer (some ⟨b1, 0, none⟩)), (3, .int .i64 0), (4, .int .i64 0)]) (by kernel_rfl) ?_
      rw [Option.bind_eq_some_iff] at h
      obtain ⟨os3, h, hk4⟩ := h
      refine WP.cutQ (fun L' G' Γ' => ∃ s3 : Int, s3 = os3 ∧ L' = [(3, .int .i64 s3)] ∧ G = G' ∧ Γ = Γ') ?_ ?_
      · clear hk4
        refine WP.block ?_
        refine WP.pick [1, 3, 4] ?_
        refine WP.loopF (fun kn7 L' G' Γ' => ∃ (y5 : Int), ∃ (y6 : Int), grapevineref14_Terms_l0 a0 (grapevineref14_Terms kf) kn7 y5 y6 = some os3 ∧ L' = [(1, .pointer (some ⟨b1, 0, none⟩)), (3, .int .i64 y5), (4, .int .i64 y6)] ∧ G = G' ∧ [(b1, .cells #[.int .i64 a0.f0, .int .i64 a0.f1, .slice Aa0_f2 a0.f2.length ca0_f2, .slice Aa0_f3 a0.f3.length ca0_f3] 25 (0, 0))] :: Γ = Γ') ?_ kf ⟨0, 0, h, rfl, rfl, rfl⟩
        clear h
        rintro kn8 _ _ _ ⟨y5, y6, h, rfl, rfl, rfl⟩
        cases kn8 with
        | zero => exact absurd h (by simp [grapevineref14_Terms_l0])
        | succ kn8 =>
          simp only [grapevineref14_Terms_l0] at h
          refine WP.seq ?_
          refine WP.seqR ?_
          refine WL.pure 0 2 [1, 3, 4, 13, 14] (L' := [(1, .pointer (some ⟨b1, 0, none⟩)), (3, .int .i64 y5), (4, .int .i64 y6), (13, .int .i64 y6), (14, .pointer (some ⟨b1, 3, none⟩))]) (by kernel_rfl) (by decide) ?_
          refine WL.tell (op := .load 23 (.tmp 14)) (ty := 23) (d := some 15) (g := none) (by kernel_rfl) (by kernel_rfl) (by kernel_rfl) (Tells.load_box (i := 0) (b := b1) (o := 3) (agg := false) (by rfl) ag23 (by kernel_rfl) (fun _ => rfl) (Nat.le_of_ble_eq_true rfl) (v := .slice Aa0_f3 a0.f3.length ca0_f3) (by kernel_rfl)) ?_
          refine WL.restQ 3 [1, 3, 4, 17] (L' := [(1, .pointer (some ⟨b1, 0, none⟩)), (3, .int .i64 y5), (4, .int .i64 y6), (17, .bool (decide (y6 < (a0.f3.length : Int))))]) (by kernel_rfl) ?_
          refine WP.cond (b := decide (y6 < (a0.f3.length : Int))) (by kernel_rfl) (fun hc => ?_) (fun hc => ?_)
          · replace hc := of_decide_eq_true hc
            rw [if_pos hc] at h
            have hc9 := hc
            clear hc
            refine WP.skip ?_
            refine QP.next ?_
            refine WP.pick [1, 3, 4] ?_
            refine WP.seq ?_
            refine WP.block ?_
            refine WP.region ?_
            refine WL.pure 0 2 [1, 3, 4, 20, 21] (L' := [(1, .pointer (some ⟨b1, 0, none⟩)), (3, .int .i64 y5), (4, .int .i64 y6), (20, .int .i64 y5), (21, .pointer (some ⟨b1, 3, none⟩))]) (by kernel_rfl) (by decide) ?_
            refine WL.tell (op := .load 23 (.tmp 21)) (ty := 23) (d := some 22) (g := none) (by kernel_rfl) (by kernel_rfl) (by kernel_rfl) (Tells.load_box (i := 0) (b := b1) (o := 3) (agg := false) (by rfl) ag23 (by kernel_rfl) (fun _ => rfl) (Nat.le_of_ble_eq_true rfl) (v := .slice Aa0_f3 a0.f3.length ca0_f3) (by kernel_rfl)) ?_
            refine WL.pure 3 4 [1, 3, 4, 20, 22, 23] (L' := [(1, .pointer (some ⟨b1, 0, none⟩)), (3, .int .i64 y5), (4, .int .i64 y6), (20, .int .i64 y5), (22, .slice Aa0_f3 a0.f3.length ca0_f3), (23, .int .i64 y6)]) (by kernel_rfl) (by decide) ?_
            by_cases hb10 : 0 ≤ y6 ∧ y6 < (a0.f3.length : Int)
            case neg => rw [if_neg hb10] at h; cases h
            rw [if_pos hb10] at h
            refine WL.tell (op := .indexAddr 23 (.tmp 22) (.tmp 23)) (ty := 0) (d := some 24) (g := none) (by kernel_rfl) (by kernel_rfl) (by kernel_rfl) (Tells.indexAddr (A := Aa0_f3) (n := a0.f3.length) (c := ca0_f3) (k := .i64) (j := y6) (by kernel_rfl) (by kernel_rfl) (Ha0_f3.isSome hb10.1 hb10.2) hb10.1 hb10.2 sl23) ?_
            refine WL.tellE (op := .load 25 (.tmp 24)) (ty := 25) (d := some 25) (g := none) (by kernel_rfl) (by kernel_rfl) (by kernel_rfl) (Ha0_f3.load (agg := true) hb10.1 hb10.2 z25 ag25 (fun h => by cases h) (by kernel_rfl)) ?_
            rintro _ hrel
            obtain ⟨_, _, rfl, rfl, ⟨_, _, rfl, rfl, ⟨_, _, rfl, ⟨Ae11, ce11, rfl, He11⟩, ⟨Ae12, ce12, rfl, He12⟩⟩⟩⟩ := k25_out hrel
            replace He11 : Rd kStr G Ae11 ce11 ((a0.f3.getD y6.toNat z25).f2) := He11
            replace He12 : Rd k25 G Ae12 ce12 ((a0.f3.getD y6.toNat z25).f3) := He12
            rw [Option.bind_eq_some_iff] at h
            obtain ⟨t13, ht14, h⟩ := h
            refine WL.op (op := .call { callee := (.value (.func 52)), args := #[(.tmp 25)], argTypes := #[25] }) (ty := 3) (d := some 26) (g := none) (by kernel_rfl) (by kernel_rfl) (by kernel_rfl) (Does.call (f := 52) (args := [.agg #[.int .i64 ((a0.f3.getD y6.toNat z25).f0), .int .i64 ((a0.f3.getD y6.toNat z25).f1), .slice Ae11 ((a0.f3.getD y6.toNat z25).f2).length ce11, .slice Ae12 ((a0.f3.getD y6.toNat z25).f3).length ce12]]) (by kernel_rfl) (fun W hI => (ih (a0.f3.getD y6.toNat z25) Ae11 ce11 He11 Ae12 ce12 He12 t13 ht14 hI))) ?_
            rintro _ _ _ ⟨rfl, rfl, rfl⟩
            refine WL.rest 7 [1, 3, 4] (L' := [(1, .pointer (some ⟨b1, 0, none⟩)), (3, .int .i64 (IntKind.i64.wrap (y5 + t13))), (4, .int .i64 y6)]) (by kernel_rfl) ?_
            refine QP.blockN ?_
            refine QP.next ?_
            refine WP.pick [1, 3, 4] ?_
            refine WP.regionP [1, 3, 4] (L' := [(1, .pointer (some ⟨b1, 0, none⟩)), (3, .int .i64 (IntKind.i64.wrap (y5 + t13))), (4, .int .i64 (IntKind.i64.wrap (y6 + 1)))]) (by kernel_rfl) ?_
            refine QP.pick [1, 3, 4] ?_
            exact QP.meet ⟨kn8, Nat.lt_succ_self _, (IntKind.i64.wrap (y5 + t13)), (IntKind.i64.wrap (y6 + 1)), h, rfl, rfl, rfl⟩
          · replace hc := of_decide_eq_false hc
            rw [if_neg hc] at h
            have hc9 := hc
            clear hc
            refine WP.exit ?_
            refine QP.thenE ?_
            refine QP.thenE ?_
            refine QP.blockE ?_
            refine QP.dropAt 0 ?_
            refine QP.pick [3] ?_
            exact QP.meet ⟨_, Option.some.inj h, rfl, rfl, rfl⟩
      · rintro _ _ _ ⟨s3, rfl, rfl, rfl, rfl⟩
        clear h
        replace h := hk4
        refine QP.next ?_
        refine WP.pick [3] ?_
        refine WP.seqP [2] (L' := [(2, .int .i64 s3)]) (by kernel_rfl) ?_
        refine WP.ret ?_
        obtain rfl := Option.some.inj h
        exact QP.returned [2] [.int .i64 s3] _ (by kernel_rfl) (by kernel_rfl) (by kernel_rfl) (fun W hI => ⟨_, _, _, rfl, ⟨rfl, rfl, rfl⟩, hI⟩)
theorem grapevineref14_Terms_calls {B : World} {G : GMap} {Γ : List Chunk} {W : World} (k : Nat) (a0 : T25) (Aa0_f2 : Option Addr) (ca0_f2 : Nat) (Ha0_f2 : Rd kStr G Aa0_f2 ca0_f2 a0.f2) (Aa0_f3 : Option Addr) (ca0_f3 : Nat) (Ha0_f3 : Rd k25 G Aa0_f3 ca0_f3 a0.f3) (r : Int) (h : grapevineref14_Terms k a0 = some r) (hI : Inv B G (Γ) W) :
    Calls Tryd.prog 52 [.agg #[.int .i64 a0.f0, .int .i64 a0.f1, .slice Aa0_f2 a0.f2.length ca0_f2, .slice Aa0_f3 a0.f3.length ca0_f3]].toArray W (Ret B (fun v G' Γ' => v = .int .i64 r ∧ G = G' ∧ Γ = Γ')) := grapevineref14_Terms_calls_k k a0 Aa0_f2 ca0_f2 Ha0_f2 Aa0_f3 ca0_f3 Ha0_f3 r h hI

/-! ### grapevine/grapevineref1.runes: function 57 -/
def grapevineref1_runes (a0 : ByteArray) : Option (List Int) := ((utf8_ValidString a0).bind fun t1 => (if (!t1) = true then some ([] : List Int) else (if a0.size ≤ 70368744177664 then some (runesOf a0) else none)))
set_option maxHeartbeats 4000000 in
theorem grapevineref1_runes_calls {B : World} {G : GMap} {Γ : List Chunk} {W : World} (HT : Tabs B G) (a0 : ByteArray) (r : List Int) (h : grapevineref1_runes a0 = some r) (hI : Inv B G (Γ) W) :
    Calls Tryd.prog 57 [.string a0].toArray W (Ret B (fun v G' Γ' => ∃ (AR : Option Addr), ∃ (cR : Nat), ∃ (CR : Chunk), v = .slice AR r.length cR ∧ Ow (kInt .i32) G' AR cR r CR ∧ G = G' ∧ CR :: Γ = Γ')) := by
  refine calls_WP (Γ := Γ) (G := G) (B := B) Tryd.func57 rfl (by kernel_rfl) ?_ hI
  clear hI
  unfold grapevineref1_runes at h
  refine WP.seqP [0] (L' := [(0, .string a0)]) (by kernel_rfl) ?_
  refine WP.seq ?_
  refine WP.seqR ?_
  refine WL.pure 0 1 [0, 3] (L' := [(0, .string a0), (3, .string a0)]) (by kernel_rfl) (by decide) ?_
  rw [Option.bind_eq_some_iff] at h
  obtain ⟨t1, ht2, h⟩ := h
  refine WL.op (op := .call { callee := (.value (.func 65)), args := #[(.tmp 3)], argTypes := #[9] }) (ty := 4) (d := some 4) (g := none) (by kernel_rfl) (by kernel_rfl) (by kernel_rfl) (Does.call (f := 65) (args := [.string a0]) (by kernel_rfl) (fun W hI => (utf8_ValidString_calls HT a0  t1 ht2 hI))) ?_
  rintro _ _ _ ⟨rfl, rfl, rfl⟩
  refine WL.restQ 2 [0, 5] (L' := [(0, .string a0), (5, .bool (!t1))]) (by kernel_rfl) ?_
  refine WP.cond (b := (!t1)) (by kernel_rfl) (fun hc => ?_) (fun hc => ?_)
  · replace hc := hc
    rw [if_pos hc] at h
    have hc5 := hc
    clear hc
    refine WP.seqP [2] (L' := [(2, .slice none 0 0)]) (by kernel_rfl) ?_
    refine WP.ret ?_
    refine QP.thenR ?_
    obtain rfl := Option.some.inj h
    refine QP.addNil ?_
    exact QP.returned [2] [.slice none ([] : List Int).length 0] _ (by kernel_rfl) (by kernel_rfl) (by kernel_rfl) (fun W hI => ⟨_, _, _, rfl, ⟨none, 0, [], rfl, (Ow.nil (kInt .i32) _), rfl, rfl⟩, hI⟩)
  · replace hc := (Bool.eq_false_iff.1 hc)
    rw [if_neg hc] at h
    have hc5 := hc
    clear hc
    refine WP.skip ?_
    refine QP.next ?_
    refine WP.pick [0] ?_
    refine WP.seqR ?_
    refine WL.pure 0 1 [6] (L' := [(6, .string a0)]) (by kernel_rfl) (by decide) ?_
    by_cases hb7 : a0.size ≤ 70368744177664
    case neg => rw [if_neg hb7] at h; cases h
    rw [if_pos hb7] at h
    refine WL.op (op := .convert 9 80 (.tmp 6)) (ty := 80) (d := some 7) (g := none) (by kernel_rfl) (by kernel_rfl) (by kernel_rfl) (Does.runes (s := a0) (by kernel_rfl) ru80 st9 hb7) ?_
    rintro _ _ _ ⟨rfl, AM6, cM6, CM6, rfl, HM6, rfl⟩
    refine WL.restQ 2 [2] (L' := [(2, .slice AM6 (runesOf a0).length cM6)]) (by kernel_rfl) ?_
    refine WP.ret ?_
    obtain rfl := Option.some.inj h
    exact QP.returned [2] [.slice AM6 (runesOf a0).length cM6] _ (by kernel_rfl) (by kernel_rfl) (by kernel_rfl) (fun W hI => ⟨_, _, _, rfl, ⟨AM6, cM6, CM6, rfl, HM6, rfl, rfl⟩, hI⟩)

/-! ### grapevine/grapevineref1.letter: function 58 -/
def grapevineref1_letter (a0 : Int) : Option Bool := (((unicode_IsLetter a0).bind fun t3 => (if t3 = true then some true else ((unicode_IsDigit a0).bind fun t8 => some t8))).bind fun s1 => some s1)
set_option maxHeartbeats 4000000 in
theorem grapevineref1_letter_calls {B : World} {G : GMap} {Γ : List Chunk} {W : World} (HT : Tabs B G) (a0 : Int) (r : Bool) (h : grapevineref1_letter a0 = some r) (hI : Inv B G (Γ) W) :
    Calls Tryd.prog 58 [.int .i32 a0].toArray W (Ret B (fun v G' Γ' => v = .bool r ∧ G = G' ∧ Γ = Γ')) := by
  refine calls_WP (Γ := Γ) (G := G) (B := B) Tryd.func58 rfl (by kernel_rfl) ?_ hI
  clear hI
  unfold grapevineref1_letter at h
  refine WP.seqP [0] (L' := [(0, .int .i32 a0)]) (by kernel_rfl) ?_
  rw [Option.bind_eq_some_iff] at h
  obtain ⟨os1, h, hk2⟩ := h
  refine WP.cut (fun L' G' Γ' => ∃ s1 : Bool, s1 = os1 ∧ L' = [(2, .bool s1)] ∧ G = G' ∧ Γ = Γ') ?_ ?_
  · clear hk2
    refine WP.region ?_
    refine WL.pure 0 1 [0, 3] (L' := [(0, .int .i32 a0), (3, .int .i32 a0)]) (by kernel_rfl) (by decide) ?_
    rw [Option.bind_eq_some_iff] at h
    obtain ⟨t3, ht4, h⟩ := h
    refine WL.op (op := .call { callee := (.value (.func 80)), args := #[(.tmp 3)], argTypes := #[21] }) (ty := 4) (d := some 4) (g := none) (by kernel_rfl) (by kernel_rfl) (by kernel_rfl) (Does.call (f := 80) (args := [.int .i32 a0]) (by kernel_rfl) (fun W hI => (unicode_IsLetter_calls HT a0  t3 ht4 hI))) ?_
    rintro _ _ _ ⟨rfl, rfl, rfl⟩
    refine WL.pure 2 3 [0, 5] (L' := [(0, .int .i32 a0), (5, .bool t3)]) (by kernel_rfl) (by decide) ?_
    refine WL.split 5 (b := t3) (by kernel_rfl) (fun hc => ?_) (fun hc => ?_)
    · replace hc := hc
      rw [if_pos hc] at h
      have hc7 := hc
      clear hc
      refine WL.rest 3 [2] (L' := [(2, .bool true)]) (by kernel_rfl) ?_
      refine QP.pick [2] ?_
      exact QP.meet ⟨_, Option.some.inj h, rfl, rfl, rfl⟩
    · replace hc := (Bool.eq_false_iff.1 hc)
      rw [if_neg hc] at h
      have hc7 := hc
      clear hc
      refine WL.pure 3 4 [5, 6] (L' := [(5, .bool false), (6, .int .i32 a0)]) (by kernel_rfl) (by decide) ?_
      rw [Option.bind_eq_some_iff] at h
      obtain ⟨t8, ht9, h⟩ := h
      refine WL.op (op := .call { callee := (.value (.func 81)), args := #[(.tmp 6)], argTypes := #[21] }) (ty := 4) (d := some 7) (g := some (2, false)) (by kernel_rfl) (by kernel_rfl) (by kernel_rfl) (Does.call (f := 81) (args := [.int .i32 a0]) (by kernel_rfl) (fun W hI => (unicode_IsDigit_calls HT a0  t8 ht9 hI))) ?_
      rintro _ _ _ ⟨rfl, rfl, rfl⟩
      refine WL.rest 5 [2] (L' := [(2, .bool t8)]) (by kernel_rfl) ?_
      refine QP.pick [2] ?_
      exact QP.meet ⟨_, Option.some.inj h, rfl, rfl, rfl⟩
  · rintro _ _ _ ⟨s1, rfl, rfl, rfl, rfl⟩
    clear h
    replace h := hk2
    refine WP.ret ?_
    obtain rfl := Option.some.inj h
    exact QP.returned [2] [.bool s1] _ (by kernel_rfl) (by kernel_rfl) (by kernel_rfl) (fun W hI => ⟨_, _, _, rfl, ⟨rfl, rfl, rfl⟩, hI⟩)

/-! ### grapevine/grapevineref1.One: function 107 -/
def grapevineref1_One_l0 (t1 : List Int) : Nat → Int → Option (Sum Bool Unit)
  | 0, _ => none
  | k + 1, y7 => (if y7 < (t1.length : Int) then (if 0 ≤ y7 ∧ y7 < (t1.length : Int) then ((grapevineref1_letter (t1.getD y7.toNat 0)).bind fun t12 => (if (!t12) = true then some (Sum.inl false) else grapevineref1_One_l0 t1 k (IntKind.i64.wrap (y7 + 1)))) else none) else some (Sum.inr ()))
def grapevineref1_One (k : Nat) (a0 : ByteArray) : Option Bool := ((grapevineref1_runes a0).bind fun t1 => ((grapevineref1_One_l0 t1 k 0).bind fun os5 => match os5 with | Sum.inl r => some r | Sum.inr s5 => some (decide ((t1.length : Int) > 0))))
set_option maxHeartbeats 4000000 in
theorem grapevineref1_One_calls {B : World} {G : GMap} {Γ : List Chunk} {W : World} (HT : Tabs B G) (k : Nat) (a0 : ByteArray) (r : Bool) (h : grapevineref1_One k a0 = some r) (hI : Inv B G (Γ) W) :
    Calls Tryd.prog 107 [.string a0].toArray W (Ret B (fun v G' Γ' => v = .bool r ∧ G = G' ∧ Γ = Γ')) := by
  refine calls_WP (Γ := Γ) (G := G) (B := B) Tryd.func107 rfl (by kernel_rfl) ?_ hI
  clear hI
  unfold grapevineref1_One at h
  refine WP.seqP [0] (L' := [(0, .string a0)]) (by kernel_rfl) ?_
  refine WP.seqR ?_
  refine WL.pure 0 1 [5] (L' := [(5, .string a0)]) (by kernel_rfl) (by decide) ?_
  rw [Option.bind_eq_some_iff] at h
  obtain ⟨t1, ht2, h⟩ := h
  refine WL.op (op := .call { callee := (.value (.func 57)), args := #[(.tmp 5)], argTypes := #[9] }) (ty := 80) (d := some 6) (g := none) (by kernel_rfl) (by kernel_rfl) (by kernel_rfl) (Does.call (f := 57) (args := [.string a0]) (by kernel_rfl) (fun W hI => (grapevineref1_runes_calls HT a0  t1 ht2 hI))) ?_
  rintro _ _ _ ⟨AR3, cR3, CR3, rfl, HR3, rfl, rfl⟩
  refine WL.restQ 2 [3] (L' := [(3, .slice AR3 t1.length cR3)]) (by kernel_rfl) ?_
  refine WP.seq ?_
  refine WP.seqP [3, 4] (L' := [(3, .slice AR3 t1.length cR3), (4, .int .i64 0)]) (by kernel_rfl) ?_
  rw [Option.bind_eq_some_iff] at h
  obtain ⟨os5, h, hk6⟩ := h
  refine WP.cutQ (fun L' G' Γ' => ∃ s5 : Unit, Sum.inr s5 = os5 ∧ L' = [(3, .slice AR3 t1.length cR3)] ∧ G = G' ∧ CR3 :: Γ = Γ') ?_ ?_
  · skip
    refine WP.block ?_
    refine WP.pick [3, 4] ?_
    refine WP.loopF (fun kn8 L' G' Γ' => ∃ (y7 : Int), grapevineref1_One_l0 t1 kn8 y7 = some os5 ∧ L' = [(3, .slice AR3 t1.length cR3), (4, .int .i64 y7)] ∧ G = G' ∧ CR3 :: Γ = Γ') ?_ k ⟨0, h, rfl, rfl, rfl⟩
    clear h
    rintro kn9 _ _ _ ⟨y7, h, rfl, rfl, rfl⟩
    cases kn9 with
    | zero => exact absurd h (by simp [grapevineref1_One_l0])
    | succ kn9 =>
      simp only [grapevineref1_One_l0] at h
      refine WP.seq ?_
      refine WP.seqP [3, 4, 10] (L' := [(3, .slice AR3 t1.length cR3), (4, .int .i64 y7), (10, .bool (decide (y7 < (t1.length : Int))))]) (by kernel_rfl) ?_
      refine WP.cond (b := decide (y7 < (t1.length : Int))) (by kernel_rfl) (fun hc => ?_) (fun hc => ?_)
      · replace hc := of_decide_eq_true hc
        rw [if_pos hc] at h
        have hc10 := hc
        clear hc
        refine WP.skip ?_
        refine QP.next ?_
        refine WP.pick [3, 4] ?_
        refine WP.seq ?_
        refine WP.block ?_
        refine WP.seqR ?_
        refine WL.pure 0 2 [3, 4, 13, 14] (L' := [(3, .slice AR3 t1.length cR3), (4, .int .i64 y7), (13, .slice AR3 t1.length cR3), (14, .int .i64 y7)]) (by kernel_rfl) (by decide) ?_
        by_cases hb11 : 0 ≤ y7 ∧ y7 < (t1.length : Int)
        case neg => rw [if_neg hb11] at h; cases h
        rw [if_pos hb11] at h
        refine WL.tell (op := .indexAddr 80 (.tmp 13) (.tmp 14)) (ty := 0) (d := some 15) (g := none) (by kernel_rfl) (by kernel_rfl) (by kernel_rfl) (Tells.indexAddr (A := AR3) (n := t1.length) (c := cR3) (k := .i64) (j := y7) (by kernel_rfl) (by kernel_rfl) (HR3.isSome hb11.1 hb11.2) hb11.1 hb11.2 sl80) ?_
        refine WL.tellE (op := .load 21 (.tmp 15)) (ty := 21) (d := some 16) (g := none) (by kernel_rfl) (by kernel_rfl) (by kernel_rfl) (HR3.load (i := 0) rfl (agg := false) hb11.1 hb11.2 0 ag21 (fun _ => rfl) (by kernel_rfl)) ?_
        rintro _ rfl
        rw [Option.bind_eq_some_iff] at h
        obtain ⟨t12, ht13, h⟩ := h
        refine WL.op (op := .call { callee := (.value (.func 58)), args := #[(.tmp 16)], argTypes := #[21] }) (ty := 4) (d := some 17) (g := none) (by kernel_rfl) (by kernel_rfl) (by kernel_rfl) (Does.call (f := 58) (args := [.int .i32 (t1.getD y7.toNat 0)]) (by kernel_rfl) (fun W hI => (grapevineref1_letter_calls HT (t1.getD y7.toNat 0)  t12 ht13 hI))) ?_
        rintro _ _ _ ⟨rfl, rfl, rfl⟩
        refine WL.restQ 5 [3, 4, 18] (L' := [(3, .slice AR3 t1.length cR3), (4, .int .i64 y7), (18, .bool (!t12))]) (by kernel_rfl) ?_
        refine WP.cond (b := (!t12)) (by kernel_rfl) (fun hc => ?_) (fun hc => ?_)
        · replace hc := hc
          rw [if_pos hc] at h
          have hc16 := hc
          clear hc
          refine WP.seqP [2] (L' := [(2, .bool false)]) (by kernel_rfl) ?_
          refine WP.dropAt 0 ?_
          refine WP.ret ?_
          refine QP.blockR ?_
          refine QP.thenR ?_
          refine QP.thenR ?_
          refine QP.blockR ?_
          refine QP.thenR ?_
          refine QP.thenR ?_
          obtain rfl := Option.some.inj h
          obtain rfl := Option.some.inj (show some _ = some _ from hk6)
          exact QP.returned [2] [.bool false] _ (by kernel_rfl) (by kernel_rfl) (by kernel_rfl) (fun W hI => ⟨_, _, _, rfl, ⟨rfl, rfl, rfl⟩, hI⟩)
        · replace hc := (Bool.eq_false_iff.1 hc)
          rw [if_neg hc] at h
          have hc16 := hc
          clear hc
          refine WP.skip ?_
          refine QP.blockN ?_
          refine QP.next ?_
          refine WP.pick [3, 4] ?_
          refine WP.regionP [3, 4] (L' := [(3, .slice AR3 t1.length cR3), (4, .int .i64 (IntKind.i64.wrap (y7 + 1)))]) (by kernel_rfl) ?_
          refine QP.pick [3, 4] ?_
          exact QP.meet ⟨kn9, Nat.lt_succ_self _, (IntKind.i64.wrap (y7 + 1)), h, rfl, rfl, rfl⟩
      · replace hc := of_decide_eq_false hc
        rw [if_neg hc] at h
        have hc10 := hc
        clear hc
        refine WP.exit ?_
        refine QP.thenE ?_
        refine QP.thenE ?_
        refine QP.blockE ?_
        refine QP.pick [3] ?_
        exact QP.meet ⟨_, Option.some.inj h, rfl, rfl, rfl⟩
  · rintro _ _ _ ⟨s5, rfl, rfl, rfl, rfl⟩
    clear h
    replace h := hk6
    dsimp only at h
    refine QP.next ?_
    refine WP.pick [3] ?_
    refine WP.seqP [2] (L' := [(2, .bool (decide ((t1.length : Int) > 0)))]) (by kernel_rfl) ?_
    refine WP.dropAt 0 ?_
    refine WP.ret ?_
    obtain rfl := Option.some.inj h
    exact QP.returned [2] [.bool (decide ((t1.length : Int) > 0))] _ (by kernel_rfl) (by kernel_rfl) (by kernel_rfl) (fun W hI => ⟨_, _, _, rfl, ⟨rfl, rfl, rfl⟩, hI⟩)

/-! ### unicode.ToLower: function 68 -/
def unicode_ToLower (a0 : Int) : Option Int := (if -2147483648 ≤ a0 ∧ a0 ≤ 2147483647 then some (Lib.toLowerU a0) else none)
set_option maxHeartbeats 4000000 in
theorem unicode_ToLower_calls {B : World} {G : GMap} {Γ : List Chunk} {W : World} (HT : Tabs B G) (a0 : Int) (r : Int) (h : unicode_ToLower a0 = some r) (hI : Inv B G (Γ) W) :
    Calls Tryd.prog 68 [.int .i32 a0].toArray W (Ret B (fun v G' Γ' => v = .int .i32 r ∧ G = G' ∧ Γ = Γ')) := by
  unfold unicode_ToLower at h
  by_cases hs : -2147483648 ≤ a0 ∧ a0 ≤ 2147483647
  case neg => rw [if_neg hs] at h; cases h
  rw [if_pos hs] at h
  obtain rfl := Option.some.inj h
  exact Calls.kept ((Tryd.unicode_ToLower_laid a0 W (HT.ca hI)).mono fun e w' he => ⟨he.1, by obtain ⟨q, rfl⟩ := he.2; exact below_drewNg W q⟩) hI

/-! ### grapevine/grapevineref1.Norm: function 59 -/
def grapevineref1_Norm_l0 : Nat → Int → (List Int) → Option (List Int)
  | 0, _, _ => none
  | k + 1, y7, y8 => (if y7 < (y8.length : Int) then (if 0 ≤ y7 ∧ y7 < (y8.length : Int) then ((unicode_ToLower (y8.getD y7.toNat 0)).bind fun t13 => (if 0 ≤ y7 ∧ y7 < (y8.length : Int) then grapevineref1_Norm_l0 k (IntKind.i64.wrap (y7 + 1)) (y8.set y7.toNat t13) else none)) else none) else some y8)
def grapevineref1_Norm (k : Nat) (a0 : ByteArray) : Option ByteArray := ((grapevineref1_runes a0).bind fun t1 => ((grapevineref1_Norm_l0 k 0 t1).bind fun s5 => some (runesBytes s5)))
set_option maxHeartbeats 4000000 in
theorem grapevineref1_Norm_calls {B : World} {G : GMap} {Γ : List Chunk} {W : World} (HT : Tabs B G) (k : Nat) (a0 : ByteArray) (r : ByteArray) (h : grapevineref1_Norm k a0 = some r) (hI : Inv B G (Γ) W) :
    Calls Tryd.prog 59 [.string a0].toArray W (Ret B (fun v G' Γ' => v = .string r ∧ G = G' ∧ Γ = Γ')) := by
  refine calls_WP (Γ := Γ) (G := G) (B := B) Tryd.func59 rfl (by kernel_rfl) ?_ hI
  clear hI
  unfold grapevineref1_Norm at h
  refine WP.seqP [0] (L' := [(0, .string a0)]) (by kernel_rfl) ?_
  refine WP.seqR ?_
  refine WL.pure 0 1 [5] (L' := [(5, .string a0)]) (by kernel_rfl) (by decide) ?_
  rw [Option.bind_eq_some_iff] at h
  obtain ⟨t1, ht2, h⟩ := h
  refine WL.op (op := .call { callee := (.value (.func 57)), args := #[(.tmp 5)], argTypes := #[9] }) (ty := 80) (d := some 6) (g := none) (by kernel_rfl) (by kernel_rfl) (by kernel_rfl) (Does.call (f := 57) (args := [.string a0]) (by kernel_rfl) (fun W hI => (grapevineref1_runes_calls HT a0  t1 ht2 hI))) ?_
  rintro _ _ _ ⟨AR3, cR3, CR3, rfl, HR3, rfl, rfl⟩
  refine WL.restQ 2 [3] (L' := [(3, .slice AR3 t1.length cR3)]) (by kernel_rfl) ?_
  refine WP.seq ?_
  refine WP.seqP [3, 4] (L' := [(3, .slice AR3 t1.length cR3), (4, .int .i64 0)]) (by kernel_rfl) ?_
  rw [Option.bind_eq_some_iff] at h
  obtain ⟨os5, h, hk6⟩ := h
  refine WP.cutQ (fun L' G' Γ' => ∃ s5 : (List Int), s5 = os5 ∧ ∃ (As5 : Option Addr), ∃ (cs5 : Nat), ∃ (Cs5 : Chunk), L' = [(3, .slice As5 s5.length cs5)] ∧ G = G' ∧ Cs5 :: Γ = Γ' ∧ Ow (kInt .i32) G As5 cs5 s5 Cs5) ?_ ?_
  · clear hk6
    refine WP.block ?_
    refine WP.pick [3, 4] ?_
    refine WP.loopF (fun kn9 L' G' Γ' => ∃ (y7 : Int), ∃ (y8 : List Int), grapevineref1_Norm_l0 kn9 y7 y8 = some os5 ∧ ∃ (Ay8 : Option Addr), ∃ (cy8 : Nat), ∃ (Cy8 : Chunk), L' = [(3, .slice Ay8 y8.length cy8), (4, .int .i64 y7)] ∧ G = G' ∧ Cy8 :: Γ = Γ' ∧ Ow (kInt .i32) G Ay8 cy8 y8 Cy8) ?_ k ⟨0, t1, h, AR3, cR3, CR3, rfl, rfl, rfl, HR3⟩
    clear h
    rintro kn10 _ _ _ ⟨y7, y8, h, Ay8, cy8, Cy8, rfl, rfl, rfl, Hy8⟩
    cases kn10 with
    | zero => exact absurd h (by simp [grapevineref1_Norm_l0])
    | succ kn10 =>
      simp only [grapevineref1_Norm_l0] at h
      refine WP.seq ?_
      refine WP.seqP [3, 4, 10] (L' := [(3, .slice Ay8 y8.length cy8), (4, .int .i64 y7), (10, .bool (decide (y7 < (y8.length : Int))))]) (by kernel_rfl) ?_
      refine WP.cond (b := decide (y7 < (y8.length : Int))) (by kernel_rfl) (fun hc => ?_) (fun hc => ?_)
      · replace hc := of_decide_eq_true hc
        rw [if_pos hc] at h
        have hc11 := hc
        clear hc
        refine WP.skip ?_
        refine QP.next ?_
        refine WP.pick [3, 4] ?_
        refine WP.seq ?_
        refine WP.block ?_
        refine WP.region ?_
        refine WL.pure 0 4 [3, 4, 13, 14, 15, 16] (L' := [(3, .slice Ay8 y8.length cy8), (4, .int .i64 y7), (13, .slice Ay8 y8.length cy8), (14, .int .i64 y7), (15, .slice Ay8 y8.length cy8), (16, .int .i64 y7)]) (by kernel_rfl) (by decide) ?_
        by_cases hb12 : 0 ≤ y7 ∧ y7 < (y8.length : Int)
        case neg => rw [if_neg hb12] at h; cases h
        rw [if_pos hb12] at h
        refine WL.tell (op := .indexAddr 80 (.tmp 15) (.tmp 16)) (ty := 0) (d := some 17) (g := none) (by kernel_rfl) (by kernel_rfl) (by kernel_rfl) (Tells.indexAddr (A := Ay8) (n := y8.length) (c := cy8) (k := .i64) (j := y7) (by kernel_rfl) (by kernel_rfl) (Hy8.isSome hb12.1 hb12.2) hb12.1 hb12.2 sl80) ?_
        refine WL.tellE (op := .load 21 (.tmp 17)) (ty := 21) (d := some 18) (g := none) (by kernel_rfl) (by kernel_rfl) (by kernel_rfl) (Hy8.load (i := 0) rfl (agg := false) hb12.1 hb12.2 0 ag21 (fun _ => rfl) (by kernel_rfl)) ?_
        rintro _ rfl
        rw [Option.bind_eq_some_iff] at h
        obtain ⟨t13, ht14, h⟩ := h
        refine WL.op (op := .call { callee := (.value (.func 68)), args := #[(.tmp 18)], argTypes := #[21] }) (ty := 21) (d := some 19) (g := none) (by kernel_rfl) (by kernel_rfl) (by kernel_rfl) (Does.call (f := 68) (args := [.int .i32 (y8.getD y7.toNat 0)]) (by kernel_rfl) (fun W hI => (unicode_ToLower_calls HT (y8.getD y7.toNat 0)  t13 ht14 hI))) ?_
        rintro _ _ _ ⟨rfl, rfl, rfl⟩
        by_cases hb17 : 0 ≤ y7 ∧ y7 < (y8.length : Int)
        case neg => rw [if_neg hb17] at h; cases h
        rw [if_pos hb17] at h
        refine WL.tell (op := .indexAddr 80 (.tmp 13) (.tmp 14)) (ty := 0) (d := some 20) (g := none) (by kernel_rfl) (by kernel_rfl) (by kernel_rfl) (Tells.indexAddr (A := Ay8) (n := y8.length) (c := cy8) (k := .i64) (j := y7) (by kernel_rfl) (by kernel_rfl) (Hy8.isSome hb17.1 hb17.2) hb17.1 hb17.2 sl80) ?_
        refine WL.op (op := .store 21 (.tmp 20) (.tmp 19)) (ty := 0) (d := none) (g := none) (by kernel_rfl) (by kernel_rfl) (by kernel_rfl) (Ow.store Hy8 (i := 0) rfl hb17.1 hb17.2 (z := t13) (v := .int .i32 t13) (by kernel_rfl) (by kernel_rfl) sz21 (by exact rfl)) ?_
        rintro _ _ _ ⟨rfl, rfl, C18, Ho19, rfl⟩
        refine WL.reput 3 (v := .slice Ay8 y8.length cy8) (v' := .slice Ay8 (y8.set y7.toNat t13).length cy8) (by kernel_rfl) (by simp only [List.length_set]) ?_
        refine WL.rest 9 [3, 4] (L' := [(3, .slice Ay8 (y8.set y7.toNat t13).length cy8), (4, .int .i64 y7)]) (by kernel_rfl) ?_
        refine QP.blockN ?_
        refine QP.next ?_
        refine WP.pick [3, 4] ?_
        refine WP.regionP [3, 4] (L' := [(3, .slice Ay8 (y8.set y7.toNat t13).length cy8), (4, .int .i64 (IntKind.i64.wrap (y7 + 1)))]) (by kernel_rfl) ?_
        refine QP.pick [3, 4] ?_
        exact QP.meet ⟨kn10, Nat.lt_succ_self _, (IntKind.i64.wrap (y7 + 1)), (y8.set y7.toNat t13), h, Ay8, cy8, C18, rfl, rfl, rfl, Ho19⟩
      · replace hc := of_decide_eq_false hc
        rw [if_neg hc] at h
        have hc11 := hc
        clear hc
        refine WP.exit ?_
        refine QP.thenE ?_
        refine QP.thenE ?_
        refine QP.blockE ?_
        refine QP.pick [3] ?_
        exact QP.meet ⟨_, Option.some.inj h, Ay8, cy8, Cy8, rfl, rfl, rfl, Hy8⟩
  · rintro _ _ _ ⟨s5, rfl, As5, cs5, Cs5, rfl, rfl, rfl, Hs5⟩
    clear h
    replace h := hk6
    refine QP.next ?_
    refine WP.pick [3] ?_
    refine WP.seqR ?_
    refine WL.pure 0 1 [21] (L' := [(21, .slice As5 s5.length cs5)]) (by kernel_rfl) (by decide) ?_
    refine WL.tell (op := .convert 80 9 (.tmp 21)) (ty := 9) (d := some 22) (g := none) (by kernel_rfl) (by kernel_rfl) (by kernel_rfl) (Hs5.runesStr (i := 0) rfl (by kernel_rfl) ru80 st9) ?_
    refine WL.restQ 2 [2] (L' := [(2, .string (runesBytes s5))]) (by kernel_rfl) ?_
    refine WP.dropAt 0 ?_
    refine WP.ret ?_
    obtain rfl := Option.some.inj h
    exact QP.returned [2] [.string (runesBytes s5)] _ (by kernel_rfl) (by kernel_rfl) (by kernel_rfl) (fun W hI => ⟨_, _, _, rfl, ⟨rfl, rfl, rfl⟩, hI⟩)

/-! ### grapevine/grapevineref14.word: function 95 -/
def grapevineref14_word (k : Nat) (a0 : ByteArray) : Option Bool := ((if (a0.size : Int) ≤ 40 then ((grapevineref1_One k a0).bind fun t4 => (if t4 = true then ((grapevineref1_Norm k a0).bind fun t9 => some (t9.toList == a0.toList)) else some false)) else some false).bind fun s1 => some s1)
set_option maxHeartbeats 4000000 in
theorem grapevineref14_word_calls {B : World} {G : GMap} {Γ : List Chunk} {W : World} (HT : Tabs B G) (k : Nat) (a0 : ByteArray) (r : Bool) (h : grapevineref14_word k a0 = some r) (hI : Inv B G (Γ) W) :
    Calls Tryd.prog 95 [.string a0].toArray W (Ret B (fun v G' Γ' => v = .bool r ∧ G = G' ∧ Γ = Γ')) := by
  refine calls_WP (Γ := Γ) (G := G) (B := B) Tryd.func95 rfl (by kernel_rfl) ?_ hI
  clear hI
  unfold grapevineref14_word at h
  refine WP.seqP [0] (L' := [(0, .string a0)]) (by kernel_rfl) ?_
  rw [Option.bind_eq_some_iff] at h
  obtain ⟨os1, h, hk2⟩ := h
  refine WP.cut (fun L' G' Γ' => ∃ s1 : Bool, s1 = os1 ∧ L' = [(2, .bool s1)] ∧ G = G' ∧ Γ = Γ') ?_ ?_
  · clear hk2
    refine WP.region ?_
    refine WL.pure 0 4 [0, 6] (L' := [(0, .string a0), (6, .bool (decide ((a0.size : Int) ≤ 40)))]) (by kernel_rfl) (by decide) ?_
    refine WL.split 6 (b := decide ((a0.size : Int) ≤ 40)) (by kernel_rfl) (fun hc => ?_) (fun hc => ?_)
    · replace hc := of_decide_eq_true hc
      rw [if_pos hc] at h
      have hc3 := hc
      clear hc
      refine WL.pure 4 5 [0, 6, 7] (L' := [(0, .string a0), (6, .bool true), (7, .string a0)]) (by kernel_rfl) (by decide) ?_
      rw [Option.bind_eq_some_iff] at h
      obtain ⟨t4, ht5, h⟩ := h
      refine WL.op (op := .call { callee := (.value (.func 107)), args := #[(.tmp 7)], argTypes := #[9] }) (ty := 4) (d := some 8) (g := some (3, true)) (by kernel_rfl) (by kernel_rfl) (by kernel_rfl) (Does.call (f := 107) (args := [.string a0]) (by kernel_rfl) (fun W hI => (grapevineref1_One_calls HT k a0  t4 ht5 hI))) ?_
      rintro _ _ _ ⟨rfl, rfl, rfl⟩
      refine WL.pure 6 8 [0, 10] (L' := [(0, .string a0), (10, .bool t4)]) (by kernel_rfl) (by decide) ?_
      refine WL.split 10 (b := t4) (by kernel_rfl) (fun hc => ?_) (fun hc => ?_)
      · replace hc := hc
        rw [if_pos hc] at h
        have hc8 := hc
        clear hc
        refine WL.pure 8 9 [0, 10, 11] (L' := [(0, .string a0), (10, .bool true), (11, .string a0)]) (by kernel_rfl) (by decide) ?_
        rw [Option.bind_eq_some_iff] at h
        obtain ⟨t9, ht10, h⟩ := h
        refine WL.op (op := .call { callee := (.value (.func 59)), args := #[(.tmp 11)], argTypes := #[9] }) (ty := 9) (d := some 12) (g := some (7, true)) (by kernel_rfl) (by kernel_rfl) (by kernel_rfl) (Does.call (f := 59) (args := [.string a0]) (by kernel_rfl) (fun W hI => (grapevineref1_Norm_calls HT k a0  t9 ht10 hI))) ?_
        rintro _ _ _ ⟨rfl, rfl, rfl⟩
        refine WL.rest 10 [2] (L' := [(2, .bool (t9.toList == a0.toList))]) (by kernel_rfl) ?_
        refine QP.pick [2] ?_
        exact QP.meet ⟨_, Option.some.inj h, rfl, rfl, rfl⟩
      · replace hc := (Bool.eq_false_iff.1 hc)
        rw [if_neg hc] at h
        have hc8 := hc
        clear hc
        refine WL.rest 8 [2] (L' := [(2, .bool false)]) (by kernel_rfl) ?_
        refine QP.pick [2] ?_
        exact QP.meet ⟨_, Option.some.inj h, rfl, rfl, rfl⟩
    · replace hc := of_decide_eq_false hc
      rw [if_neg hc] at h
      have hc3 := hc
      clear hc
      refine WL.rest 4 [2] (L' := [(2, .bool false)]) (by kernel_rfl) ?_
      refine QP.pick [2] ?_
      exact QP.meet ⟨_, Option.some.inj h, rfl, rfl, rfl⟩
  · rintro _ _ _ ⟨s1, rfl, rfl, rfl, rfl⟩
    clear h
    replace h := hk2
    refine WP.ret ?_
    obtain rfl := Option.some.inj h
    exact QP.returned [2] [.bool s1] _ (by kernel_rfl) (by kernel_rfl) (by kernel_rfl) (fun W hI => ⟨_, _, _, rfl, ⟨rfl, rfl, rfl⟩, hI⟩)

/-! ### grapevine/grapevineref14.words: function 78 -/
def grapevineref14_words_l0 (l0 : List ByteArray) : Nat → Int → Option (Sum Bool Unit)
  | 0, _ => none
  | k + 1, y3 => (if y3 < (l0.length : Int) then (if 0 ≤ y3 ∧ y3 < (l0.length : Int) then ((grapevineref14_word k (l0.getD y3.toNat (⟨#[]⟩ : ByteArray))).bind fun t8 => (if (!t8) = true then some (Sum.inl false) else grapevineref14_words_l0 l0 k (IntKind.i64.wrap (y3 + 1)))) else none) else some (Sum.inr ()))
def grapevineref14_words (k : Nat) (l0 : List ByteArray) (a1 : Int) (a2 : Int) : Option Bool := ((grapevineref14_words_l0 l0 k 0).bind fun os1 => match os1 with | Sum.inl r => some r | Sum.inr s1 => ((if (l0.length : Int) ≥ a1 then some (decide ((l0.length : Int) ≤ a2)) else some false).bind fun s13 => some s13))
set_option maxHeartbeats 4000000 in
theorem grapevineref14_words_calls {B : World} {G : GMap} {Γ : List Chunk} {W : World} (HT : Tabs B G) (k : Nat) (l0 : List ByteArray) (a1 : Int) (a2 : Int) (Al0 : Option Addr) (cl0 : Nat) (Hl0 : Rd kStr G Al0 cl0 l0) (r : Bool) (h : grapevineref14_words k l0 a1 a2 = some r) (hI : Inv B G (Γ) W) :
    Calls Tryd.prog 78 [.slice Al0 l0.length cl0, .int .i64 a1, .int .i64 a2].toArray W (Ret B (fun v G' Γ' => v = .bool r ∧ G = G' ∧ Γ = Γ')) := by
  refine calls_WP (Γ := Γ) (G := G) (B := B) Tryd.func78 rfl (by kernel_rfl) ?_ hI
  clear hI
  unfold grapevineref14_words at h
  refine WP.seqP [0, 1, 2] (L' := [(0, .slice Al0 l0.length cl0), (1, .int .i64 a1), (2, .int .i64 a2)]) (by kernel_rfl) ?_
  refine WP.seq ?_
  refine WP.seqP [0, 1, 2, 7] (L' := [(0, .slice Al0 l0.length cl0), (1, .int .i64 a1), (2, .int .i64 a2), (7, .int .i64 0)]) (by kernel_rfl) ?_
  rw [Option.bind_eq_some_iff] at h
  obtain ⟨os1, h, hk2⟩ := h
  refine WP.cutQ (fun L' G' Γ' => ∃ s1 : Unit, Sum.inr s1 = os1 ∧ L' = [(0, .slice Al0 l0.length cl0), (1, .int .i64 a1), (2, .int .i64 a2)] ∧ G = G' ∧ Γ = Γ') ?_ ?_
  · skip
    refine WP.block ?_
    refine WP.pick [0, 1, 2, 7] ?_
    refine WP.loopF (fun kn4 L' G' Γ' => ∃ (y3 : Int), grapevineref14_words_l0 l0 kn4 y3 = some os1 ∧ L' = [(0, .slice Al0 l0.length cl0), (1, .int .i64 a1), (2, .int .i64 a2), (7, .int .i64 y3)] ∧ G = G' ∧ Γ = Γ') ?_ k ⟨0, h, rfl, rfl, rfl⟩
    clear h
    rintro kn5 _ _ _ ⟨y3, h, rfl, rfl, rfl⟩
    cases kn5 with
    | zero => exact absurd h (by simp [grapevineref14_words_l0])
    | succ kn5 =>
      simp only [grapevineref14_words_l0] at h
      refine WP.seq ?_
      refine WP.seqP [0, 1, 2, 7, 11] (L' := [(0, .slice Al0 l0.length cl0), (1, .int .i64 a1), (2, .int .i64 a2), (7, .int .i64 y3), (11, .bool (decide (y3 < (l0.length : Int))))]) (by kernel_rfl) ?_
      refine WP.cond (b := decide (y3 < (l0.length : Int))) (by kernel_rfl) (fun hc => ?_) (fun hc => ?_)
      · replace hc := of_decide_eq_true hc
        rw [if_pos hc] at h
        have hc6 := hc
        clear hc
        refine WP.skip ?_
        refine QP.next ?_
        refine WP.pick [0, 1, 2, 7] ?_
        refine WP.seq ?_
        refine WP.block ?_
        refine WP.seqR ?_
        refine WL.pure 0 2 [0, 1, 2, 7, 14, 15] (L' := [(0, .slice Al0 l0.length cl0), (1, .int .i64 a1), (2, .int .i64 a2), (7, .int .i64 y3), (14, .slice Al0 l0.length cl0), (15, .int .i64 y3)]) (by kernel_rfl) (by decide) ?_
        by_cases hb7 : 0 ≤ y3 ∧ y3 < (l0.length : Int)
        case neg => rw [if_neg hb7] at h; cases h
        rw [if_pos hb7] at h
        refine WL.tell (op := .indexAddr 22 (.tmp 14) (.tmp 15)) (ty := 0) (d := some 16) (g := none) (by kernel_rfl) (by kernel_rfl) (by kernel_rfl) (Tells.indexAddr (A := Al0) (n := l0.length) (c := cl0) (k := .i64) (j := y3) (by kernel_rfl) (by kernel_rfl) (Hl0.isSome hb7.1 hb7.2) hb7.1 hb7.2 sl22) ?_
        refine WL.tellE (op := .load 9 (.tmp 16)) (ty := 9) (d := some 17) (g := none) (by kernel_rfl) (by kernel_rfl) (by kernel_rfl) (Hl0.load (agg := false) hb7.1 hb7.2 (⟨#[]⟩ : ByteArray) ag9 (fun _ => rfl) (by kernel_rfl)) ?_
        rintro _ rfl
        rw [Option.bind_eq_some_iff] at h
        obtain ⟨t8, ht9, h⟩ := h
        refine WL.op (op := .call { callee := (.value (.func 95)), args := #[(.tmp 17)], argTypes := #[9] }) (ty := 4) (d := some 18) (g := none) (by kernel_rfl) (by kernel_rfl) (by kernel_rfl) (Does.call (f := 95) (args := [.string (l0.getD y3.toNat (⟨#[]⟩ : ByteArray))]) (by kernel_rfl) (fun W hI => (grapevineref14_word_calls HT kn5 (l0.getD y3.toNat (⟨#[]⟩ : ByteArray))  t8 ht9 hI))) ?_
        rintro _ _ _ ⟨rfl, rfl, rfl⟩
        refine WL.restQ 5 [0, 1, 2, 7, 19] (L' := [(0, .slice Al0 l0.length cl0), (1, .int .i64 a1), (2, .int .i64 a2), (7, .int .i64 y3), (19, .bool (!t8))]) (by kernel_rfl) ?_
        refine WP.cond (b := (!t8)) (by kernel_rfl) (fun hc => ?_) (fun hc => ?_)
        · replace hc := hc
          rw [if_pos hc] at h
          have hc12 := hc
          clear hc
          refine WP.seqP [6] (L' := [(6, .bool false)]) (by kernel_rfl) ?_
          refine WP.ret ?_
          refine QP.blockR ?_
          refine QP.thenR ?_
          refine QP.thenR ?_
          refine QP.blockR ?_
          refine QP.thenR ?_
          refine QP.thenR ?_
          obtain rfl := Option.some.inj h
          obtain rfl := Option.some.inj (show some _ = some _ from hk2)
          exact QP.returned [6] [.bool false] _ (by kernel_rfl) (by kernel_rfl) (by kernel_rfl) (fun W hI => ⟨_, _, _, rfl, ⟨rfl, rfl, rfl⟩, hI⟩)
        · replace hc := (Bool.eq_false_iff.1 hc)
          rw [if_neg hc] at h
          have hc12 := hc
          clear hc
          refine WP.skip ?_
          refine QP.blockN ?_
          refine QP.next ?_
          refine WP.pick [0, 1, 2, 7] ?_
          refine WP.regionP [0, 1, 2, 7] (L' := [(0, .slice Al0 l0.length cl0), (1, .int .i64 a1), (2, .int .i64 a2), (7, .int .i64 (IntKind.i64.wrap (y3 + 1)))]) (by kernel_rfl) ?_
          refine QP.pick [0, 1, 2, 7] ?_
          exact QP.meet ⟨kn5, Nat.lt_succ_self _, (IntKind.i64.wrap (y3 + 1)), h, rfl, rfl, rfl⟩
      · replace hc := of_decide_eq_false hc
        rw [if_neg hc] at h
        have hc6 := hc
        clear hc
        refine WP.exit ?_
        refine QP.thenE ?_
        refine QP.thenE ?_
        refine QP.blockE ?_
        refine QP.pick [0, 1, 2] ?_
        exact QP.meet ⟨_, Option.some.inj h, rfl, rfl, rfl⟩
  · rintro _ _ _ ⟨s1, rfl, rfl, rfl, rfl⟩
    clear h
    replace h := hk2
    dsimp only at h
    refine QP.next ?_
    refine WP.pick [0, 1, 2] ?_
    rw [Option.bind_eq_some_iff] at h
    obtain ⟨os13, h, hk14⟩ := h
    refine WP.cut (fun L' G' Γ' => ∃ s13 : Bool, s13 = os13 ∧ L' = [(6, .bool s13)] ∧ G = G' ∧ Γ = Γ') ?_ ?_
    · clear hk14
      refine WP.region ?_
      refine WL.pure 0 5 [0, 2, 24] (L' := [(0, .slice Al0 l0.length cl0), (2, .int .i64 a2), (24, .bool (decide ((l0.length : Int) ≥ a1)))]) (by kernel_rfl) (by decide) ?_
      refine WL.split 24 (b := decide ((l0.length : Int) ≥ a1)) (by kernel_rfl) (fun hc => ?_) (fun hc => ?_)
      · replace hc := of_decide_eq_true hc
        rw [if_pos hc] at h
        have hc15 := hc
        clear hc
        refine WL.rest 5 [6] (L' := [(6, .bool (decide ((l0.length : Int) ≤ a2)))]) (by kernel_rfl) ?_
        refine QP.pick [6] ?_
        exact QP.meet ⟨_, Option.some.inj h, rfl, rfl, rfl⟩
      · replace hc := of_decide_eq_false hc
        rw [if_neg hc] at h
        have hc15 := hc
        clear hc
        refine WL.rest 5 [6] (L' := [(6, .bool false)]) (by kernel_rfl) ?_
        refine QP.pick [6] ?_
        exact QP.meet ⟨_, Option.some.inj h, rfl, rfl, rfl⟩
    · rintro _ _ _ ⟨s13, rfl, rfl, rfl, rfl⟩
      clear h
      replace h := hk14
      refine WP.ret ?_
      obtain rfl := Option.some.inj h
      exact QP.returned [6] [.bool s13] _ (by kernel_rfl) (by kernel_rfl) (by kernel_rfl) (fun W hI => ⟨_, _, _, rfl, ⟨rfl, rfl, rfl⟩, hI⟩)
end Go.Proofs.YtbphlohiealbeaaDoor.Gf
