/- Walks of Go functions: what each tells, as a plain Lean function, and that the Go code comes to it. Written by gg.py of this repo. -/
import Derived.Test.YtbphlohiealbeaaDoorT
namespace Go.Proofs.YtbphlohiealbeaaDoor.Gf
open Go Go.Gg
set_option maxRecDepth 100000
set_option linter.unusedVariables false
set_option linter.unusedSimpArgs false

/-! ### grapevine/grapevinelaw15.rec: function 26 -/
def grapevinelaw15_rec (a0 : ByteArray) : Option T31 := some (⟨1, 2, 5, 0, a0⟩ : T31)
set_option maxHeartbeats 4000000 in
theorem grapevinelaw15_rec_calls {B : World} {G : GMap} {Γ : List Chunk} {W : World} (a0 : ByteArray) (r : T31) (h : grapevinelaw15_rec a0 = some r) (hI : Inv B G (Γ) W) :
    Calls Tryd.prog 26 [.string a0].toArray W (Ret B (fun v G' Γ' => v = .agg #[.int .i64 r.f0, .int .i64 r.f1, .int .i64 r.f2, .int .i64 r.f3, .string r.f4] ∧ G = G' ∧ Γ = Γ')) := by
  refine calls_WP (Γ := Γ) (G := G) (B := B) Tryd.func26 rfl (by kernel_rfl) ?_ hI
  clear hI
  unfold grapevinelaw15_rec at h
  refine WP.seqR ?_
  refine WL.op (op := .alloc 31) (ty := 0) (d := some 2) (g := none) (by kernel_rfl) (by kernel_rfl) (by kernel_rfl) (Does.new (o := .cells #[.int .i64 0, .int .i64 0, .int .i64 0, .int .i64 0, .string (⟨#[]⟩ : ByteArray)] 31 (0, 0)) (v := fun r => .pointer (some ⟨r, 0, none⟩)) (fun r => by kernel_rfl)) ?_
  rintro _ _ _ ⟨b1, rfl, rfl, rfl⟩
  refine WL.restQ 1 [0, 2] (L' := [(0, .string a0), (2, .pointer (some ⟨b1, 0, none⟩))]) (by kernel_rfl) ?_
  refine WP.seqR ?_
  refine WL.pure 0 4 [2, 6] (L' := [(2, .pointer (some ⟨b1, 0, none⟩)), (6, .agg #[.int .i64 1, .int .i64 2, .int .i64 5, .int .i64 0, .string a0])]) (by kernel_rfl) (by decide) ?_
  refine WL.op (op := .store 31 (.tmp 2) (.tmp 6)) (ty := 0) (d := none) (g := none) (by kernel_rfl) (by kernel_rfl) (by kernel_rfl) (Does.store_box (i := 0) (b := b1) (o := 0) (v := .agg #[.int .i64 1, .int .i64 2, .int .i64 5, .int .i64 0, .string a0]) (by rfl) sz31 (by kernel_rfl) (by kernel_rfl) (by kernel_rfl) (Free.zero _) (Nat.le_of_ble_eq_true rfl) (cells' := #[.int .i64 1, .int .i64 2, .int .i64 5, .int .i64 0, .string a0]) (by kernel_rfl)) ?_
  rintro _ _ _ ⟨rfl, rfl, rfl⟩
  refine WL.restQ 5 [2] (L' := [(2, .pointer (some ⟨b1, 0, none⟩))]) (by kernel_rfl) ?_
  refine WP.ret ?_
  obtain rfl := Option.some.inj h
  exact QP.returnedM (rs := [.cell 2 31]) (by kernel_rfl) (ResAll.cons (Res1.box (p := 2) (i := 0) (o := 0) (agg := true) (by rfl) ag31 (by kernel_rfl) (fun h => by cases h) (Nat.le_of_ble_eq_true rfl) (v := .agg #[.int .i64 1, .int .i64 2, .int .i64 5, .int .i64 0, .string a0]) (by kernel_rfl)) ResAll.nil) (by kernel_rfl) (fun W hI => ⟨_, _, _, rfl, ⟨rfl, rfl, rfl⟩, (hI.less 0 rfl)⟩)

/-! ### grapevine/ask.Deep: function 32 -/
def ask_Deep_l0 (a0 : T25) (rec_ : T25 → Option Int) : Nat → Int → Int → Option Int
  | 0, _, _ => none
  | k + 1, y4, y5 => (if y5 < (a0.f3.length : Int) then (if 0 ≤ y5 ∧ y5 < (a0.f3.length : Int) then ((rec_ (⟨(a0.f3.getD y5.toNat z25).f0, (a0.f3.getD y5.toNat z25).f1, (a0.f3.getD y5.toNat z25).f2, (a0.f3.getD y5.toNat z25).f3⟩ : T25)).bind fun t13 => ask_Deep_l0 a0 rec_ k (if t13 > y4 then t13 else y4) (IntKind.i64.wrap (y5 + 1))) else none) else some y4)
def ask_Deep : Nat → T25 → Option Int
  | 0, _ => none
  | k + 1, a0 => ((ask_Deep_l0 a0 (ask_Deep k) k 0 0).bind fun s2 => some (IntKind.i64.wrap (s2 + 1)))
set_option maxHeartbeats 4000000 in
theorem ask_Deep_calls_k (k : Nat) : ∀ {B : World} {G : GMap} {Γ : List Chunk} {W : World} (a0 : T25) (Aa0_f2 : Option Addr) (ca0_f2 : Nat) (Ha0_f2 : Rd kStr G Aa0_f2 ca0_f2 a0.f2) (Aa0_f3 : Option Addr) (ca0_f3 : Nat) (Ha0_f3 : Rd k25 G Aa0_f3 ca0_f3 a0.f3) (r : Int) (h : ask_Deep k a0 = some r) (hI : Inv B G (Γ) W),
    Calls Tryd.prog 32 [.agg #[.int .i64 a0.f0, .int .i64 a0.f1, .slice Aa0_f2 a0.f2.length ca0_f2, .slice Aa0_f3 a0.f3.length ca0_f3]].toArray W (Ret B (fun v G' Γ' => v = .int .i64 r ∧ G = G' ∧ Γ = Γ')) := by
  induction k with
  | zero => intro B G Γ W a0 Aa0_f2 ca0_f2 Ha0_f2 Aa0_f3 ca0_f3 Ha0_f3 r h hI; exact absurd h (by simp [ask_Deep])
  | succ kf ih =>
    intro B G Γ W a0 Aa0_f2 ca0_f2 Ha0_f2 Aa0_f3 ca0_f3 Ha0_f3 r h hI
    refine calls_WP (Γ := Γ) (G := G) (B := B) Tryd.func32 rfl (by kernel_rfl) ?_ hI
    clear hI
    simp only [ask_Deep] at h
    refine WP.seqR ?_
    refine WL.op (op := .box 25 (.tmp 0)) (ty := 0) (d := some 1) (g := none) (by kernel_rfl) (by kernel_rfl) (by kernel_rfl) (Does.new (o := .cells #[.int .i64 a0.f0, .int .i64 a0.f1, .slice Aa0_f2 a0.f2.length ca0_f2, .slice Aa0_f3 a0.f3.length ca0_f3] 25 (0, 0)) (v := fun r => .pointer (some ⟨r, 0, none⟩)) (fun r => by kernel_rfl)) ?_
    rintro _ _ _ ⟨b1, rfl, rfl, rfl⟩
    refine WL.restQ 1 [1] (L' := [(1, .pointer (some ⟨b1, 0, none⟩))]) (by kernel_rfl) ?_
    refine WP.seqP [1, 3] (L' := [(1, .pointer (some ⟨b1, 0, none⟩)), (3, .int .i64 0)]) (by kernel_rfl) ?_
    refine WP.seq ?_
    refine WP.seqR ?_
    refine WL.pure 0 1 [3, 6] (L' := [(3, .int .i64 0), (6, .pointer (some ⟨b1, 3, none⟩))]) (by kernel_rfl) (by decide) ?_
    refine WL.tell (op := .load 23 (.tmp 6)) (ty := 23) (d := some 7) (g := none) (by kernel_rfl) (by kernel_rfl) (by kernel_rfl) (Tells.load_box (i := 0) (b := b1) (o := 3) (agg := false) (by rfl) ag23 (by kernel_rfl) (fun _ => rfl) (Nat.le_of_ble_eq_true rfl) (v := .slice Aa0_f3 a0.f3.length ca0_f3) (by kernel_rfl)) ?_
    refine WL.restQ 2 [3, 7, 8, 9] (L' := [(3, .int .i64 0), (7, .slice Aa0_f3 a0.f3.length ca0_f3), (8, .int .i64 (a0.f3.length : Int)), (9, .int .i64 0)]) (by kernel_rfl) ?_
    refine WP.dropAt 0 ?_
    rw [Option.bind_eq_some_iff] at h
    obtain ⟨os2, h, hk3⟩ := h
    refine WP.cutQ (fun L' G' Γ' => ∃ s2 : Int, s2 = os2 ∧ L' = [(3, .int .i64 s2)] ∧ G = G' ∧ Γ = Γ') ?_ ?_
    · clear hk3
      refine WP.block ?_
      refine WP.pick [3, 7, 8, 9] ?_
      refine WP.loopF (fun kn6 L' G' Γ' => ∃ (y4 : Int), ∃ (y5 : Int), ask_Deep_l0 a0 (ask_Deep kf) kn6 y4 y5 = some os2 ∧ L' = [(3, .int .i64 y4), (7, .slice Aa0_f3 a0.f3.length ca0_f3), (8, .int .i64 (a0.f3.length : Int)), (9, .int .i64 y5)] ∧ G = G' ∧ Γ = Γ') ?_ kf ⟨0, 0, h, rfl, rfl, rfl⟩
      clear h
      rintro kn7 _ _ _ ⟨y4, y5, h, rfl, rfl, rfl⟩
      cases kn7 with
      | zero => exact absurd h (by simp [ask_Deep_l0])
      | succ kn7 =>
        simp only [ask_Deep_l0] at h
        refine WP.seqP [3, 7, 8, 9, 10] (L' := [(3, .int .i64 y4), (7, .slice Aa0_f3 a0.f3.length ca0_f3), (8, .int .i64 (a0.f3.length : Int)), (9, .int .i64 y5), (10, .bool (decide (y5 < (a0.f3.length : Int))))]) (by kernel_rfl) ?_
        refine WP.seq ?_
        refine WP.cond (b := decide (y5 < (a0.f3.length : Int))) (by kernel_rfl) (fun hc => ?_) (fun hc => ?_)
        · replace hc := of_decide_eq_true hc
          rw [if_pos hc] at h
          have hc8 := hc
          clear hc
          refine WP.skip ?_
          refine QP.next ?_
          refine WP.pick [3, 7, 8, 9] ?_
          refine WP.seq ?_
          refine WP.block ?_
          refine WP.seqR ?_
          by_cases hb9 : 0 ≤ y5 ∧ y5 < (a0.f3.length : Int)
          case neg => rw [if_neg hb9] at h; cases h
          rw [if_pos hb9] at h
          refine WL.tell (op := .indexAddr 23 (.tmp 7) (.tmp 9)) (ty := 0) (d := some 11) (g := none) (by kernel_rfl) (by kernel_rfl) (by kernel_rfl) (Tells.indexAddr (A := Aa0_f3) (n := a0.f3.length) (c := ca0_f3) (k := .i64) (j := y5) (by kernel_rfl) (by kernel_rfl) (Ha0_f3.isSome hb9.1 hb9.2) hb9.1 hb9.2 sl23) ?_
          refine WL.tellE (op := .load 25 (.tmp 11)) (ty := 25) (d := some 12) (g := none) (by kernel_rfl) (by kernel_rfl) (by kernel_rfl) (Ha0_f3.load (agg := true) hb9.1 hb9.2 z25 ag25 (fun h => by cases h) (by kernel_rfl)) ?_
          rintro _ hrel
          obtain ⟨_, _, rfl, rfl, ⟨_, _, rfl, rfl, ⟨_, _, rfl, ⟨Ae10, ce10, rfl, He10⟩, ⟨Ae11, ce11, rfl, He11⟩⟩⟩⟩ := k25_out hrel
          replace He10 : Rd kStr G Ae10 ce10 ((a0.f3.getD y5.toNat z25).f2) := He10
          replace He11 : Rd k25 G Ae11 ce11 ((a0.f3.getD y5.toNat z25).f3) := He11
          refine WL.op (op := .alloc 25) (ty := 0) (d := some 5) (g := none) (by kernel_rfl) (by kernel_rfl) (by kernel_rfl) (Does.new (o := .cells #[.int .i64 0, .int .i64 0, .slice none 0 0, .slice none 0 0] 25 (0, 0)) (v := fun r => .pointer (some ⟨r, 0, none⟩)) (fun r => by kernel_rfl)) ?_
          rintro _ _ _ ⟨b12, rfl, rfl, rfl⟩
          refine WL.op (op := .store 25 (.tmp 5) (.tmp 12)) (ty := 0) (d := none) (g := none) (by kernel_rfl) (by kernel_rfl) (by kernel_rfl) (Does.store_box (i := 0) (b := b12) (o := 0) (v := .agg #[.int .i64 ((a0.f3.getD y5.toNat z25).f0), .int .i64 ((a0.f3.getD y5.toNat z25).f1), .slice Ae10 ((a0.f3.getD y5.toNat z25).f2).length ce10, .slice Ae11 ((a0.f3.getD y5.toNat z25).f3).length ce11]) (by rfl) sz25 (by kernel_rfl) (by kernel_rfl) (by kernel_rfl) (Free.zero _) (Nat.le_of_ble_eq_true rfl) (cells' := #[.int .i64 ((a0.f3.getD y5.toNat z25).f0), .int .i64 ((a0.f3.getD y5.toNat z25).f1), .slice Ae10 ((a0.f3.getD y5.toNat z25).f2).length ce10, .slice Ae11 ((a0.f3.getD y5.toNat z25).f3).length ce11]) (by kernel_rfl)) ?_
          rintro _ _ _ ⟨rfl, rfl, rfl⟩
          refine WL.restQ 4 [3, 5, 7, 8, 9] (L' := [(3, .int .i64 y4), (5, .pointer (some ⟨b12, 0, none⟩)), (7, .slice Aa0_f3 a0.f3.length ca0_f3), (8, .int .i64 (a0.f3.length : Int)), (9, .int .i64 y5)]) (by kernel_rfl) ?_
          refine WP.region ?_
          refine WL.pure 0 1 [3, 5, 7, 8, 9, 13] (L' := [(3, .int .i64 y4), (5, .pointer (some ⟨b12, 0, none⟩)), (7, .slice Aa0_f3 a0.f3.length ca0_f3), (8, .int .i64 (a0.f3.length : Int)), (9, .int .i64 y5), (13, .int .i64 y4)]) (by kernel_rfl) (by decide) ?_
          refine WL.tell (op := .load 25 (.tmp 5)) (ty := 25) (d := some 14) (g := none) (by kernel_rfl) (by kernel_rfl) (by kernel_rfl) (Tells.load_box (i := 0) (b := b12) (o := 0) (agg := true) (by rfl) ag25 (by kernel_rfl) (fun h => by cases h) (Nat.le_of_ble_eq_true rfl) (v := .agg #[.int .i64 ((a0.f3.getD y5.toNat z25).f0), .int .i64 ((a0.f3.getD y5.toNat z25).f1), .slice Ae10 ((a0.f3.getD y5.toNat z25).f2).length ce10, .slice Ae11 ((a0.f3.getD y5.toNat z25).f3).length ce11]) (by kernel_rfl)) ?_
          rw [Option.bind_eq_some_iff] at h
          obtain ⟨t13, ht14, h⟩ := h
          refine WL.op (op := .call { callee := (.value (.func 32)), args := #[(.tmp 14)], argTypes := #[25] }) (ty := 3) (d := some 15) (g := none) (by kernel_rfl) (by kernel_rfl) (by kernel_rfl) (Does.call (f := 32) (args := [.agg #[.int .i64 ((a0.f3.getD y5.toNat z25).f0), .int .i64 ((a0.f3.getD y5.toNat z25).f1), .slice Ae10 ((a0.f3.getD y5.toNat z25).f2).length ce10, .slice Ae11 ((a0.f3.getD y5.toNat z25).f3).length ce11]]) (by kernel_rfl) (fun W hI => (ih (⟨(a0.f3.getD y5.toNat z25).f0, (a0.f3.getD y5.toNat z25).f1, (a0.f3.getD y5.toNat z25).f2, (a0.f3.getD y5.toNat z25).f3⟩ : T25) Ae10 ce10 He10 Ae11 ce11 He11 t13 ht14 hI))) ?_
          rintro _ _ _ ⟨rfl, rfl, rfl⟩
          refine WL.rest 3 [3, 7, 8, 9] (L' := [(3, .int .i64 (if t13 > y4 then t13 else y4)), (7, .slice Aa0_f3 a0.f3.length ca0_f3), (8, .int .i64 (a0.f3.length : Int)), (9, .int .i64 y5)]) (by kernel_rfl) ?_
          refine QP.blockN ?_
          refine QP.next ?_
          refine WP.pick [3, 7, 8, 9] ?_
          refine WP.regionP [3, 7, 8, 9] (L' := [(3, .int .i64 (if t13 > y4 then t13 else y4)), (7, .slice Aa0_f3 a0.f3.length ca0_f3), (8, .int .i64 (a0.f3.length : Int)), (9, .int .i64 (IntKind.i64.wrap (y5 + 1)))]) (by kernel_rfl) ?_
          refine QP.dropAt 0 ?_
          refine QP.pick [3, 7, 8, 9] ?_
          exact QP.meet ⟨kn7, Nat.lt_succ_self _, (if t13 > y4 then t13 else y4), (IntKind.i64.wrap (y5 + 1)), h, rfl, rfl, rfl⟩
        · replace hc := of_decide_eq_false hc
          rw [if_neg hc] at h
          have hc8 := hc
          clear hc
          refine WP.exit ?_
          refine QP.thenE ?_
          refine QP.thenE ?_
          refine QP.blockE ?_
          refine QP.pick [3] ?_
          exact QP.meet ⟨_, Option.some.inj h, rfl, rfl, rfl⟩
    · rintro _ _ _ ⟨s2, rfl, rfl, rfl, rfl⟩
      clear h
      replace h := hk3
      refine QP.next ?_
      refine WP.pick [3] ?_
      refine WP.seqP [2] (L' := [(2, .int .i64 (IntKind.i64.wrap (s2 + 1)))]) (by kernel_rfl) ?_
      refine WP.ret ?_
      obtain rfl := Option.some.inj h
      exact QP.returned [2] [.int .i64 (IntKind.i64.wrap (s2 + 1))] _ (by kernel_rfl) (by kernel_rfl) (by kernel_rfl) (fun W hI => ⟨_, _, _, rfl, ⟨rfl, rfl, rfl⟩, hI⟩)
theorem ask_Deep_calls {B : World} {G : GMap} {Γ : List Chunk} {W : World} (k : Nat) (a0 : T25) (Aa0_f2 : Option Addr) (ca0_f2 : Nat) (Ha0_f2 : Rd kStr G Aa0_f2 ca0_f2 a0.f2) (Aa0_f3 : Option Addr) (ca0_f3 : Nat) (Ha0_f3 : Rd k25 G Aa0_f3 ca0_f3 a0.f3) (r : Int) (h : ask_Deep k a0 = some r) (hI : Inv B G (Γ) W) :
    Calls Tryd.prog 32 [.agg #[.int .i64 a0.f0, .int .i64 a0.f1, .slice Aa0_f2 a0.f2.length ca0_f2, .slice Aa0_f3 a0.f3.length ca0_f3]].toArray W (Ret B (fun v G' Γ' => v = .int .i64 r ∧ G = G' ∧ Γ = Γ')) := ask_Deep_calls_k k a0 Aa0_f2 ca0_f2 Ha0_f2 Aa0_f3 ca0_f3 Ha0_f3 r h hI

/-! ### grapevine/ask.Terms: function 33 -/
def ask_Terms_l0 (a0 : T25) (rec_ : T25 → Option Int) : Nat → Int → Int → Option Int
  | 0, _, _ => none
  | k + 1, y5, y6 => (if y6 < (a0.f3.length : Int) then (if 0 ≤ y6 ∧ y6 < (a0.f3.length : Int) then ((rec_ (⟨(a0.f3.getD y6.toNat z25).f0, (a0.f3.getD y6.toNat z25).f1, (a0.f3.getD y6.toNat z25).f2, (a0.f3.getD y6.toNat z25).f3⟩ : T25)).bind fun t14 => ask_Terms_l0 a0 rec_ k (IntKind.i64.wrap (y5 + t14)) (IntKind.i64.wrap (y6 + 1))) else none) else some y5)
def ask_Terms : Nat → T25 → Option Int
  | 0, _ => none
  | k + 1, a0 => (if (a0.f3.length : Int) = 0 then some (if 1 > (a0.f2.length : Int) then 1 else (a0.f2.length : Int)) else ((ask_Terms_l0 a0 (ask_Terms k) k 0 0).bind fun s3 => some s3))
set_option maxHeartbeats 4000000 in
theorem ask_Terms_calls_k (k : Nat) : ∀ {B : World} {G : GMap} {Γ : List Chunk} {W : World} (a0 : T25) (Aa0_f2 : Option Addr) (ca0_f2 : Nat) (Ha0_f2 : Rd kStr G Aa0_f2 ca0_f2 a0.f2) (Aa0_f3 : Option Addr) (ca0_f3 : Nat) (Ha0_f3 : Rd k25 G Aa0_f3 ca0_f3 a0.f3) (r : Int) (h : ask_Terms k a0 = some r) (hI : Inv B G (Γ) W),
    Calls Tryd.prog 33 [.agg #[.int .i64 a0.f0, .int .i64 a0.f1, .slice Aa0_f2 a0.f2.length ca0_f2, .slice Aa0_f3 a0.f3.length ca0_f3]].toArray W (Ret B (fun v G' Γ' => v = .int .i64 r ∧ G = G' ∧ Γ = Γ')) := by
  induction k with
  | zero => intro B G Γ W a0 Aa0_f2 ca0_f2 Ha0_f2 Aa0_f3 ca0_f3 Ha0_f3 r h hI; exact absurd h (by simp [ask_Terms])
  | succ kf ih =>
    intro B G Γ W a0 Aa0_f2 ca0_f2 Ha0_f2 Aa0_f3 ca0_f3 Ha0_f3 r h hI
    refine calls_WP (Γ := Γ) (G := G) (B := B) Tryd.func33 rfl (by kernel_rfl) ?_ hI
    clear hI
    simp only [ask_Terms] at h
    refine WP.seqR ?_
    refine WL.op (op := .box 25 (.tmp 0)) (ty := 0) (d := some 1) (g := none) (by kernel_rfl) (by kernel_rfl) (by kernel_rfl) (Does.new (o := .cells #[.int .i64 a0.f0, .int .i64 a0.f1, .slice Aa0_f2 a0.f2.length ca0_f2, .slice Aa0_f3 a0.f3.length ca0_f3] 25 (0, 0)) (v := fun r => .pointer (some ⟨r, 0, none⟩)) (fun r => by kernel_rfl)) ?_
    rintro _ _ _ ⟨b1, rfl, rfl, rfl⟩
    refine WL.restQ 1 [1] (L' := [(1, .pointer (some ⟨b1, 0, none⟩))]) (by kernel_rfl) ?_
    refine WP.seq ?_
    refine WP.seqR ?_
    refine WL.pure 0 1 [1, 6] (L' := [(1, .pointer (some ⟨b1, 0, none⟩)), (6, .pointer (some ⟨b1, 3, none⟩))]) (by kernel_rfl) (by decide) ?_
    refine WL.tell (op := .load 23 (.tmp 6)) (ty := 23) (d := some 7) (g := none) (by kernel_rfl) (by kernel_rfl) (by kernel_rfl) (Tells.load_box (i := 0) (b := b1) (o := 3) (agg := false) (by rfl) ag23 (by kernel_rfl) (fun _ => rfl) (Nat.le_of_ble_eq_true rfl) (v := .slice Aa0_f3 a0.f3.length ca0_f3) (by kernel_rfl)) ?_
    refine WL.restQ 2 [1, 9] (L' := [(1, .pointer (some ⟨b1, 0, none⟩)), (9, .bool ((a0.f3.length : Int) == 0))]) (by kernel_rfl) ?_
    refine WP.cond (b := ((a0.f3.length : Int) == 0)) (by kernel_rfl) (fun hc => ?_) (fun hc => ?_)
    · replace hc := eq_of_beq hc
      rw [if_pos hc] at h
      have hc2 := hc
      clear hc
      refine WP.seqR ?_
      refine WL.pure 0 1 [10] (L' := [(10, .pointer (some ⟨b1, 2, none⟩))]) (by kernel_rfl) (by decide) ?_
      refine WL.tell (op := .load 22 (.tmp 10)) (ty := 22) (d := some 11) (g := none) (by kernel_rfl) (by kernel_rfl) (by kernel_rfl) (Tells.load_box (i := 0) (b := b1) (o := 2) (agg := false) (by rfl) ag22 (by kernel_rfl) (fun _ => rfl) (Nat.le_of_ble_eq_true rfl) (v := .slice Aa0_f2 a0.f2.length ca0_f2) (by kernel_rfl)) ?_
      refine WL.restQ 2 [2] (L' := [(2, .int .i64 (if 1 > (a0.f2.length : Int) then 1 else (a0.f2.length : Int)))]) (by kernel_rfl) ?_
      refine WP.dropAt 0 ?_
      refine WP.ret ?_
      refine QP.thenR ?_
      obtain rfl := Option.some.inj h
      exact QP.returned [2] [.int .i64 (if 1 > (a0.f2.length : Int) then 1 else (a0.f2.length : Int))] _ (by kernel_rfl) (by kernel_rfl) (by kernel_rfl) (fun W hI => ⟨_, _, _, rfl, ⟨rfl, rfl, rfl⟩, hI⟩)
    · replace hc := ne_of_beq_false hc
      rw [if_neg hc] at h
      have hc2 := hc
      clear hc
      refine WP.skip ?_
      refine QP.next ?_
      refine WP.pick [1] ?_
      refine WP.seqP [1, 3] (L' := [(1, .pointer (some ⟨b1, 0, none⟩)), (3, .int .i64 0)]) (by kernel_rfl) ?_
      refine WP.seq ?_
      refine WP.seqR ?_
      refine WL.pure 0 1 [3, 14] (L' := [(3, .int .i64 0), (14, .pointer (some ⟨b1, 3, none⟩))]) (by kernel_rfl) (by decide) ?_
      refine WL.tell (op := .load 23 (.tmp 14)) (ty := 23) (d := some 15) (g := none) (by kernel_rfl) (by kernel_rfl) (by kernel_rfl) (Tells.load_box (i := 0) (b := b1) (o := 3) (agg := false) (by rfl) ag23 (by kernel_rfl) (fun _ => rfl) (Nat.le_of_ble_eq_true rfl) (v := .slice Aa0_f3 a0.f3.length ca0_f3) (by kernel_rfl)) ?_
      refine WL.restQ 2 [3, 15, 16, 17] (L' := [(3, .int .i64 0), (15, .slice Aa0_f3 a0.f3.length ca0_f3), (16, .int .i64 (a0.f3.length : Int)), (17, .int .i64 0)]) (by kernel_rfl) ?_
      refine WP.dropAt 0 ?_
      rw [Option.bind_eq_some_iff] at h
      obtain ⟨os3, h, hk4⟩ := h
      refine WP.cutQ (fun L' G' Γ' => ∃ s3 : Int, s3 = os3 ∧ L' = [(3, .int .i64 s3)] ∧ G = G' ∧ Γ = Γ') ?_ ?_
      · clear hk4
        refine WP.block ?_
        refine WP.pick [3, 15, 16, 17] ?_
        refine WP.loopF (fun kn7 L' G' Γ' => ∃ (y5 : Int), ∃ (y6 : Int), ask_Terms_l0 a0 (ask_Terms kf) kn7 y5 y6 = some os3 ∧ L' = [(3, .int .i64 y5), (15, .slice Aa0_f3 a0.f3.length ca0_f3), (16, .int .i64 (a0.f3.length : Int)), (17, .int .i64 y6)] ∧ G = G' ∧ Γ = Γ') ?_ kf ⟨0, 0, h, rfl, rfl, rfl⟩
        clear h
        rintro kn8 _ _ _ ⟨y5, y6, h, rfl, rfl, rfl⟩
        cases kn8 with
        | zero => exact absurd h (by simp [ask_Terms_l0])
        | succ kn8 =>
          simp only [ask_Terms_l0] at h
          refine WP.seqP [3, 15, 16, 17, 18] (L' := [(3, .int .i64 y5), (15, .slice Aa0_f3 a0.f3.length ca0_f3), (16, .int .i64 (a0.f3.length : Int)), (17, .int .i64 y6), (18, .bool (decide (y6 < (a0.f3.length : Int))))]) (by kernel_rfl) ?_
          refine WP.seq ?_
          refine WP.cond (b := decide (y6 < (a0.f3.length : Int))) (by kernel_rfl) (fun hc => ?_) (fun hc => ?_)
          · replace hc := of_decide_eq_true hc
            rw [if_pos hc] at h
            have hc9 := hc
            clear hc
            refine WP.skip ?_
            refine QP.next ?_
            refine WP.pick [3, 15, 16, 17] ?_
            refine WP.seq ?_
            refine WP.block ?_
            refine WP.seqR ?_
            by_cases hb10 : 0 ≤ y6 ∧ y6 < (a0.f3.length : Int)
            case neg => rw [if_neg hb10] at h; cases h
            rw [if_pos hb10] at h
            refine WL.tell (op := .indexAddr 23 (.tmp 15) (.tmp 17)) (ty := 0) (d := some 19) (g := none) (by kernel_rfl) (by kernel_rfl) (by kernel_rfl) (Tells.indexAddr (A := Aa0_f3) (n := a0.f3.length) (c := ca0_f3) (k := .i64) (j := y6) (by kernel_rfl) (by kernel_rfl) (Ha0_f3.isSome hb10.1 hb10.2) hb10.1 hb10.2 sl23) ?_
            refine WL.tellE (op := .load 25 (.tmp 19)) (ty := 25) (d := some 20) (g := none) (by kernel_rfl) (by kernel_rfl) (by kernel_rfl) (Ha0_f3.load (agg := true) hb10.1 hb10.2 z25 ag25 (fun h => by cases h) (by kernel_rfl)) ?_
            rintro _ hrel
            obtain ⟨_, _, rfl, rfl, ⟨_, _, rfl, rfl, ⟨_, _, rfl, ⟨Ae11, ce11, rfl, He11⟩, ⟨Ae12, ce12, rfl, He12⟩⟩⟩⟩ := k25_out hrel
            replace He11 : Rd kStr G Ae11 ce11 ((a0.f3.getD y6.toNat z25).f2) := He11
            replace He12 : Rd k25 G Ae12 ce12 ((a0.f3.getD y6.toNat z25).f3) := He12
            refine WL.op (op := .alloc 25) (ty := 0) (d := some 5) (g := none) (by kernel_rfl) (by kernel_rfl) (by kernel_rfl) (Does.new (o := .cells #[.int .i64 0, .int .i64 0, .slice none 0 0, .slice none 0 0] 25 (0, 0)) (v := fun r => .pointer (some ⟨r, 0, none⟩)) (fun r => by kernel_rfl)) ?_
            rintro _ _ _ ⟨b13, rfl, rfl, rfl⟩
            refine WL.op (op := .store 25 (.tmp 5) (.tmp 20)) (ty := 0) (d := none) (g := none) (by kernel_rfl) (by kernel_rfl) (by kernel_rfl) (Does.store_box (i := 0) (b := b13) (o := 0) (v := .agg #[.int .i64 ((a0.f3.getD y6.toNat z25).f0), .int .i64 ((a0.f3.getD y6.toNat z25).f1), .slice Ae11 ((a0.f3.getD y6.toNat z25).f2).length ce11, .slice Ae12 ((a0.f3.getD y6.toNat z25).f3).length ce12]) (by rfl) sz25 (by kernel_rfl) (by kernel_rfl) (by kernel_rfl) (Free.zero _) (Nat.le_of_ble_eq_true rfl) (cells' := #[.int .i64 ((a0.f3.getD y6.toNat z25).f0), .int .i64 ((a0.f3.getD y6.toNat z25).f1), .slice Ae11 ((a0.f3.getD y6.toNat z25).f2).length ce11, .slice Ae12 ((a0.f3.getD y6.toNat z25).f3).length ce12]) (by kernel_rfl)) ?_
            rintro _ _ _ ⟨rfl, rfl, rfl⟩
            refine WL.restQ 4 [3, 5, 15, 16, 17] (L' := [(3, .int .i64 y5), (5, .pointer (some ⟨b13, 0, none⟩)), (15, .slice Aa0_f3 a0.f3.length ca0_f3), (16, .int .i64 (a0.f3.length : Int)), (17, .int .i64 y6)]) (by kernel_rfl) ?_
            refine WP.region ?_
            refine WL.pure 0 1 [3, 5, 15, 16, 17, 21] (L' := [(3, .int .i64 y5), (5, .pointer (some ⟨b13, 0, none⟩)), (15, .slice Aa0_f3 a0.f3.length ca0_f3), (16, .int .i64 (a0.f3.length : Int)), (17, .int .i64 y6), (21, .int .i64 y5)]) (by kernel_rfl) (by decide) ?_
            refine WL.tell (op := .load 25 (.tmp 5)) (ty := 25) (d := some 22) (g := none) (by kernel_rfl) (by kernel_rfl) (by kernel_rfl) (Tells.load_box (i := 0) (b := b13) (o := 0) (agg := true) (by rfl) ag25 (by kernel_rfl) (fun h => by cases h) (Nat.le_of_ble_eq_true rfl) (v := .agg #[.int .i64 ((a0.f3.getD y6.toNat z25).f0), .int .i64 ((a0.f3.getD y6.toNat z25).f1), .slice Ae11 ((a0.f3.getD y6.toNat z25).f2).length ce11, .slice Ae12 ((a0.f3.getD y6.toNat z25).f3).length ce12]) (by kernel_rfl)) ?_
            rw [Option.bind_eq_some_iff] at h
            obtain ⟨t14, ht15, h⟩ := h
            refine WL.op (op := .call { callee := (.value (.func 33)), args := #[(.tmp 22)], argTypes := #[25] }) (ty := 3) (d := some 23) (g := none) (by kernel_rfl) (by kernel_rfl) (by kernel_rfl) (Does.call (f := 33) (args := [.agg #[.int .i64 ((a0.f3.getD y6.toNat z25).f0), .int .i64 ((a0.f3.getD y6.toNat z25).f1), .slice Ae11 ((a0.f3.getD y6.toNat z25).f2).length ce11, .slice Ae12 ((a0.f3.getD y6.toNat z25).f3).length ce12]]) (by kernel_rfl) (fun W hI => (ih (⟨(a0.f3.getD y6.toNat z25).f0, (a0.f3.getD y6.toNat z25).f1, (a0.f3.getD y6.toNat z25).f2, (a0.f3.getD y6.toNat z25).f3⟩ : T25) Ae11 ce11 He11 Ae12 ce12 He12 t14 ht15 hI))) ?_
            rintro _ _ _ ⟨rfl, rfl, rfl⟩
            refine WL.rest 3 [3, 15, 16, 17] (L' := [(3, .int .i64 (IntKind.i64.wrap (y5 + t14))), (15, .slice Aa0_f3 a0.f3.length ca0_f3), (16, .int .i64 (a0.f3.length : Int)), (17, .int .i64 y6)]) (by kernel_rfl) ?_
            refine QP.blockN ?_
            refine QP.next ?_
            refine WP.pick [3, 15, 16, 17] ?_
            refine WP.regionP [3, 15, 16, 17] (L' := [(3, .int .i64 (IntKind.i64.wrap (y5 + t14))), (15, .slice Aa0_f3 a0.f3.length ca0_f3), (16, .int .i64 (a0.f3.length : Int)), (17, .int .i64 (IntKind.i64.wrap (y6 + 1)))]) (by kernel_rfl) ?_
            refine QP.dropAt 0 ?_
            refine QP.pick [3, 15, 16, 17] ?_
            exact QP.meet ⟨kn8, Nat.lt_succ_self _, (IntKind.i64.wrap (y5 + t14)), (IntKind.i64.wrap (y6 + 1)), h, rfl, rfl, rfl⟩
          · replace hc := of_decide_eq_false hc
            rw [if_neg hc] at h
            have hc9 := hc
            clear hc
            refine WP.exit ?_
            refine QP.thenE ?_
            refine QP.thenE ?_
            refine QP.blockE ?_
            refine QP.pick [3] ?_
            exact QP.meet ⟨_, Option.some.inj h, rfl, rfl, rfl⟩
      · rintro _ _ _ ⟨s3, rfl, rfl, rfl, rfl⟩
        clear h
        replace h := hk4
        refine QP.next ?_
        refine WP.pick [3] ?_
        refine WP.seqP [2] (L' := [(2, .int .i64 s3)]) (by kernel_rfl) ?_
        refine WP.ret ?_
        obtain rfl := Option.some.inj h
        exact QP.returned [2] [.int .i64 s3] _ (by kernel_rfl) (by kernel_rfl) (by kernel_rfl) (fun W hI => ⟨_, _, _, rfl, ⟨rfl, rfl, rfl⟩, hI⟩)
theorem ask_Terms_calls {B : World} {G : GMap} {Γ : List Chunk} {W : World} (k : Nat) (a0 : T25) (Aa0_f2 : Option Addr) (ca0_f2 : Nat) (Ha0_f2 : Rd kStr G Aa0_f2 ca0_f2 a0.f2) (Aa0_f3 : Option Addr) (ca0_f3 : Nat) (Ha0_f3 : Rd k25 G Aa0_f3 ca0_f3 a0.f3) (r : Int) (h : ask_Terms k a0 = some r) (hI : Inv B G (Γ) W) :
    Calls Tryd.prog 33 [.agg #[.int .i64 a0.f0, .int .i64 a0.f1, .slice Aa0_f2 a0.f2.length ca0_f2, .slice Aa0_f3 a0.f3.length ca0_f3]].toArray W (Ret B (fun v G' Γ' => v = .int .i64 r ∧ G = G' ∧ Γ = Γ')) := ask_Terms_calls_k k a0 Aa0_f2 ca0_f2 Ha0_f2 Aa0_f3 ca0_f3 Ha0_f3 r h hI

/-! ### grapevine/ask.shaped: function 60 -/
def ask_shaped (a0 : Int) : Option (T83 × Bool) := (if a0 = 1 then (if a0 = 1 then some ((⟨1, 1, 0, 0, 0⟩ : T83), true) else (if a0 = 3 then some ((⟨1, 16, 0, 0, 0⟩ : T83), true) else (if a0 = 4 then some ((⟨0, 0, 0, 0, 7⟩ : T83), true) else (if a0 = 5 then (if a0 = 5 then some ((⟨0, 0, 0, 0, 1099511627776⟩ : T83), true) else (if a0 = 9 then some ((⟨0, 0, 1, 1, 0⟩ : T83), true) else (if a0 = 7 then (if a0 = 7 then some ((⟨0, 0, 2, 1048576, 0⟩ : T83), true) else some ((⟨0, 0, 0, 0, 0⟩ : T83), false)) else (if a0 = 8 then some ((⟨0, 0, 2, 1048576, 0⟩ : T83), true) else some ((⟨0, 0, 0, 0, 0⟩ : T83), false))))) else (if a0 = 6 then some ((⟨0, 0, 0, 0, 1099511627776⟩ : T83), true) else (if a0 = 9 then some ((⟨0, 0, 1, 1, 0⟩ : T83), true) else (if a0 = 7 then (if a0 = 7 then some ((⟨0, 0, 2, 1048576, 0⟩ : T83), true) else some ((⟨0, 0, 0, 0, 0⟩ : T83), false)) else (if a0 = 8 then some ((⟨0, 0, 2, 1048576, 0⟩ : T83), true) else some ((⟨0, 0, 0, 0, 0⟩ : T83), false))))))))) else (if a0 = 2 then some ((⟨1, 1, 0, 0, 0⟩ : T83), true) else (if a0 = 3 then some ((⟨1, 16, 0, 0, 0⟩ : T83), true) else (if a0 = 4 then some ((⟨0, 0, 0, 0, 7⟩ : T83), true) else (if a0 = 5 then (if a0 = 5 then some ((⟨0, 0, 0, 0, 1099511627776⟩ : T83), true) else (if a0 = 9 then some ((⟨0, 0, 1, 1, 0⟩ : T83), true) else (if a0 = 7 then (if a0 = 7 then some ((⟨0, 0, 2, 1048576, 0⟩ : T83), true) else some ((⟨0, 0, 0, 0, 0⟩ : T83), false)) else (if a0 = 8 then some ((⟨0, 0, 2, 1048576, 0⟩ : T83), true) else some ((⟨0, 0, 0, 0, 0⟩ : T83), false))))) else (if a0 = 6 then some ((⟨0, 0, 0, 0, 1099511627776⟩ : T83), true) else (if a0 = 9 then some ((⟨0, 0, 1, 1, 0⟩ : T83), true) else (if a0 = 7 then (if a0 = 7 then some ((⟨0, 0, 2, 1048576, 0⟩ : T83), true) else some ((⟨0, 0, 0, 0, 0⟩ : T83), false)) else (if a0 = 8 then some ((⟨0, 0, 2, 1048576, 0⟩ : T83), true) else some ((⟨0, 0, 0, 0, 0⟩ : T83), false))))))))))
set_option maxHeartbeats 4000000 in
theorem ask_shaped_calls {B : World} {G : GMap} {Γ : List Chunk} {W : World} (a0 : Int) (r : T83 × Bool) (h : ask_shaped a0 = some r) (hI : Inv B G (Γ) W) :
    Calls Tryd.prog 60 [.int .i64 a0].toArray W (Ret B (fun v G' Γ' => v = .tuple #[.agg #[.int .i64 r.1.f0, .int .i64 r.1.f1, .int .i64 r.1.f2, .int .i64 r.1.f3, .int .i64 r.1.f4], .bool r.2] ∧ G = G' ∧ Γ = Γ')) := by
  refine calls_WP (Γ := Γ) (G := G) (B := B) Tryd.func60 rfl (by kernel_rfl) ?_ hI
  clear hI
  unfold ask_shaped at h
  refine WP.seqR ?_
  refine WL.op (op := .alloc 83) (ty := 0) (d := some 2) (g := none) (by kernel_rfl) (by kernel_rfl) (by kernel_rfl) (Does.new (o := .cells #[.int .i64 0, .int .i64 0, .int .i64 0, .int .i64 0, .int .i64 0] 83 (0, 0)) (v := fun r => .pointer (some ⟨r, 0, none⟩)) (fun r => by kernel_rfl)) ?_
  rintro _ _ _ ⟨b1, rfl, rfl, rfl⟩
  refine WL.restQ 1 [0, 2] (L' := [(0, .int .i64 a0), (2, .pointer (some ⟨b1, 0, none⟩))]) (by kernel_rfl) ?_
  refine WP.seq ?_
  refine WP.seqP [2, 4] (L' := [(2, .pointer (some ⟨b1, 0, none⟩)), (4, .int .i64 a0)]) (by kernel_rfl) ?_
  refine WP.block ?_
  refine WP.seq ?_
  refine WP.seqP [2, 4, 5] (L' := [(2, .pointer (some ⟨b1, 0, none⟩)), (4, .int .i64 a0), (5, .bool (a0 == 1))]) (by kernel_rfl) ?_
  refine WP.cond (b := (a0 == 1)) (by kernel_rfl) (fun hc => ?_) (fun hc => ?_)
  · replace hc := eq_of_beq hc
    rw [if_pos hc] at h
    have hc2 := hc
    clear hc
    refine WP.skip ?_
    refine QP.next ?_
    refine WP.pick [2, 4, 5] ?_
    refine WP.cond (b := (a0 == 1)) (by kernel_rfl) (fun hc => ?_) (fun hc => ?_)
    · replace hc := eq_of_beq hc
      rw [if_pos hc] at h
      have hc3 := hc
      clear hc
      refine WP.seqR ?_
      refine WL.pure 0 1 [2, 8] (L' := [(2, .pointer (some ⟨b1, 0, none⟩)), (8, .agg #[.int .i64 1, .int .i64 1, .int .i64 0, .int .i64 0, .int .i64 0])]) (by kernel_rfl) (by decide) ?_
      refine WL.op (op := .store 83 (.tmp 2) (.tmp 8)) (ty := 0) (d := none) (g := none) (by kernel_rfl) (by kernel_rfl) (by kernel_rfl) (Does.store_box (i := 0) (b := b1) (o := 0) (v := .agg #[.int .i64 1, .int .i64 1, .int .i64 0, .int .i64 0, .int .i64 0]) (by rfl) sz83 (by kernel_rfl) (by kernel_rfl) (by kernel_rfl) (Free.zero _) (Nat.le_of_ble_eq_true rfl) (cells' := #[.int .i64 1, .int .i64 1, .int .i64 0, .int .i64 0, .int .i64 0]) (by kernel_rfl)) ?_
      rintro _ _ _ ⟨rfl, rfl, rfl⟩
      refine WL.restQ 2 [2, 3] (L' := [(2, .pointer (some ⟨b1, 0, none⟩)), (3, .bool true)]) (by kernel_rfl) ?_
      refine WP.ret ?_
      refine QP.blockR ?_
      refine QP.thenR ?_
      obtain rfl := Option.some.inj h
      exact QP.returnedM (rs := [.cell 2 83, .tmp 3]) (by kernel_rfl) (ResAll.cons (Res1.box (p := 2) (i := 0) (o := 0) (agg := true) (by rfl) ag83 (by kernel_rfl) (fun h => by cases h) (Nat.le_of_ble_eq_true rfl) (v := .agg #[.int .i64 1, .int .i64 1, .int .i64 0, .int .i64 0, .int .i64 0]) (by kernel_rfl)) (ResAll.cons (Res1.tmp (t := 3) (v := .bool true) (by kernel_rfl)) ResAll.nil)) (by kernel_rfl) (fun W hI => ⟨_, _, _, rfl, ⟨rfl, rfl, rfl⟩, (hI.less 0 rfl)⟩)
    · replace hc := ne_of_beq_false hc
      rw [if_neg hc] at h
      have hc3 := hc
      clear hc
      refine WP.seqP [2, 4, 9] (L' := [(2, .pointer (some ⟨b1, 0, none⟩)), (4, .int .i64 a0), (9, .bool (a0 == 3))]) (by kernel_rfl) ?_
      refine WP.cond (b := (a0 == 3)) (by kernel_rfl) (fun hc => ?_) (fun hc => ?_)
      · replace hc := eq_of_beq hc
        rw [if_pos hc] at h
        have hc4 := hc
        clear hc
        refine WP.seqR ?_
        refine WL.pure 0 1 [2, 11] (L' := [(2, .pointer (some ⟨b1, 0, none⟩)), (11, .agg #[.int .i64 1, .int .i64 16, .int .i64 0, .int .i64 0, .int .i64 0])]) (by kernel_rfl) (by decide) ?_
        refine WL.op (op := .store 83 (.tmp 2) (.tmp 11)) (ty := 0) (d := none) (g := none) (by kernel_rfl) (by kernel_rfl) (by kernel_rfl) (Does.store_box (i := 0) (b := b1) (o := 0) (v := .agg #[.int .i64 1, .int .i64 16, .int .i64 0, .int .i64 0, .int .i64 0]) (by rfl) sz83 (by kernel_rfl) (by kernel_rfl) (by kernel_rfl) (Free.zero _) (Nat.le_of_ble_eq_true rfl) (cells' := #[.int .i64 1, .int .i64 16, .int .i64 0, .int .i64 0, .int .i64 0]) (by kernel_rfl)) ?_
        rintro _ _ _ ⟨rfl, rfl, rfl⟩
        refine WL.restQ 2 [2, 3] (L' := [(2, .pointer (some ⟨b1, 0, none⟩)), (3, .bool true)]) (by kernel_rfl) ?_
        refine WP.ret ?_
        refine QP.blockR ?_
        refine QP.thenR ?_
        obtain rfl := Option.some.inj h
        exact QP.returnedM (rs := [.cell 2 83, .tmp 3]) (by kernel_rfl) (ResAll.cons (Res1.box (p := 2) (i := 0) (o := 0) (agg := true) (by rfl) ag83 (by kernel_rfl) (fun h => by cases h) (Nat.le_of_ble_eq_true rfl) (v := .agg #[.int .i64 1, .int .i64 16, .int .i64 0, .int .i64 0, .int .i64 0]) (by kernel_rfl)) (ResAll.cons (Res1.tmp (t := 3) (v := .bool true) (by kernel_rfl)) ResAll.nil)) (by kernel_rfl) (fun W hI => ⟨_, _, _, rfl, ⟨rfl, rfl, rfl⟩, (hI.less 0 rfl)⟩)
      · replace hc := ne_of_beq_false hc
        rw [if_neg hc] at h
        have hc4 := hc
        clear hc
        refine WP.seqP [2, 4, 12] (L' := [(2, .pointer (some ⟨b1, 0, none⟩)), (4, .int .i64 a0), (12, .bool (a0 == 4))]) (by kernel_rfl) ?_
        refine WP.cond (b := (a0 == 4)) (by kernel_rfl) (fun hc => ?_) (fun hc => ?_)
        · replace hc := eq_of_beq hc
          rw [if_pos hc] at h
          have hc5 := hc
          clear hc
          refine WP.seqR ?_
          refine WL.pure 0 1 [2, 14] (L' := [(2, .pointer (some ⟨b1, 0, none⟩)), (14, .agg #[.int .i64 0, .int .i64 0, .int .i64 0, .int .i64 0, .int .i64 7])]) (by kernel_rfl) (by decide) ?_
          refine WL.op (op := .store 83 (.tmp 2) (.tmp 14)) (ty := 0) (d := none) (g := none) (by kernel_rfl) (by kernel_rfl) (by kernel_rfl) (Does.store_box (i := 0) (b := b1) (o := 0) (v := .agg #[.int .i64 0, .int .i64 0, .int .i64 0, .int .i64 0, .int .i64 7]) (by rfl) sz83 (by kernel_rfl) (by kernel_rfl) (by kernel_rfl) (Free.zero _) (Nat.le_of_ble_eq_true rfl) (cells' := #[.int .i64 0, .int .i64 0, .int .i64 0, .int .i64 0, .int .i64 7]) (by kernel_rfl)) ?_
          rintro _ _ _ ⟨rfl, rfl, rfl⟩
          refine WL.restQ 2 [2, 3] (L' := [(2, .pointer (some ⟨b1, 0, none⟩)), (3, .bool true)]) (by kernel_rfl) ?_
          refine WP.ret ?_
          refine QP.blockR ?_
          refine QP.thenR ?_
          obtain rfl := Option.some.inj h
          exact QP.returnedM (rs := [.cell 2 83, .tmp 3]) (by kernel_rfl) (ResAll.cons (Res1.box (p := 2) (i := 0) (o := 0) (agg := true) (by rfl) ag83 (by kernel_rfl) (fun h => by cases h) (Nat.le_of_ble_eq_true rfl) (v := .agg #[.int .i64 0, .int .i64 0, .int .i64 0, .int .i64 0, .int .i64 7]) (by kernel_rfl)) (ResAll.cons (Res1.tmp (t := 3) (v := .bool true) (by kernel_rfl)) ResAll.nil)) (by kernel_rfl) (fun W hI => ⟨_, _, _, rfl, ⟨rfl, rfl, rfl⟩, (hI.less 0 rfl)⟩)
        · replace hc := ne_of_beq_false hc
          rw [if_neg hc] at h
          have hc5 := hc
          clear hc
          refine WP.seq ?_
          refine WP.seqP [2, 4, 15] (L' := [(2, .pointer (some ⟨b1, 0, none⟩)), (4, .int .i64 a0), (15, .bool (a0 == 5))]) (by kernel_rfl) ?_
          refine WP.cond (b := (a0 == 5)) (by kernel_rfl) (fun hc => ?_) (fun hc => ?_)
          · replace hc := eq_of_beq hc
            rw [if_pos hc] at h
            have hc6 := hc
            clear hc
            refine WP.skip ?_
            refine QP.next ?_
            refine WP.pick [2, 4, 15] ?_
            refine WP.cond (b := (a0 == 5)) (by kernel_rfl) (fun hc => ?_) (fun hc => ?_)
            · replace hc := eq_of_beq hc
              rw [if_pos hc] at h
              have hc7 := hc
              clear hc
              refine WP.seqR ?_
              refine WL.pure 0 1 [2, 18] (L' := [(2, .pointer (some ⟨b1, 0, none⟩)), (18, .agg #[.int .i64 0, .int .i64 0, .int .i64 0, .int .i64 0, .int .i64 1099511627776])]) (by kernel_rfl) (by decide) ?_
              refine WL.op (op := .store 83 (.tmp 2) (.tmp 18)) (ty := 0) (d := none) (g := none) (by kernel_rfl) (by kernel_rfl) (by kernel_rfl) (Does.store_box (i := 0) (b := b1) (o := 0) (v := .agg #[.int .i64 0, .int .i64 0, .int .i64 0, .int .i64 0, .int .i64 1099511627776]) (by rfl) sz83 (by kernel_rfl) (by kernel_rfl) (by kernel_rfl) (Free.zero _) (Nat.le_of_ble_eq_true rfl) (cells' := #[.int .i64 0, .int .i64 0, .int .i64 0, .int .i64 0, .int .i64 1099511627776]) (by kernel_rfl)) ?_
              rintro _ _ _ ⟨rfl, rfl, rfl⟩
              refine WL.restQ 2 [2, 3] (L' := [(2, .pointer (some ⟨b1, 0, none⟩)), (3, .bool true)]) (by kernel_rfl) ?_
              refine WP.ret ?_
              refine QP.blockR ?_
              refine QP.thenR ?_
              obtain rfl := Option.some.inj h
              exact QP.returnedM (rs := [.cell 2 83, .tmp 3]) (by kernel_rfl) (ResAll.cons (Res1.box (p := 2) (i := 0) (o := 0) (agg := true) (by rfl) ag83 (by kernel_rfl) (fun h => by cases h) (Nat.le_of_ble_eq_true rfl) (v := .agg #[.int .i64 0, .int .i64 0, .int .i64 0, .int .i64 0, .int .i64 1099511627776]) (by kernel_rfl)) (ResAll.cons (Res1.tmp (t := 3) (v := .bool true) (by kernel_rfl)) ResAll.nil)) (by kernel_rfl) (fun W hI => ⟨_, _, _, rfl, ⟨rfl, rfl, rfl⟩, (hI.less 0 rfl)⟩)
            · replace hc := ne_of_beq_false hc
              rw [if_neg hc] at h
              have hc7 := hc
              clear hc
              refine WP.seqP [2, 4, 19] (L' := [(2, .pointer (some ⟨b1, 0, none⟩)), (4, .int .i64 a0), (19, .bool (a0 == 9))]) (by kernel_rfl) ?_
              refine WP.cond (b := (a0 == 9)) (by kernel_rfl) (fun hc => ?_) (fun hc => ?_)
              · replace hc := eq_of_beq hc
                rw [if_pos hc] at h
                have hc8 := hc
                clear hc
                refine WP.seqR ?_
                refine WL.pure 0 1 [2, 21] (L' := [(2, .pointer (some ⟨b1, 0, none⟩)), (21, .agg #[.int .i64 0, .int .i64 0, .int .i64 1, .int .i64 1, .int .i64 0])]) (by kernel_rfl) (by decide) ?_
                refine WL.op (op := .store 83 (.tmp 2) (.tmp 21)) (ty := 0) (d := none) (g := none) (by kernel_rfl) (by kernel_rfl) (by kernel_rfl) (Does.store_box (i := 0) (b := b1) (o := 0) (v := .agg #[.int .i64 0, .int .i64 0, .int .i64 1, .int .i64 1, .int .i64 0]) (by rfl) sz83 (by kernel_rfl) (by kernel_rfl) (by kernel_rfl) (Free.zero _) (Nat.le_of_ble_eq_true rfl) (cells' := #[.int .i64 0, .int .i64 0, .int .i64 1, .int .i64 1, .int .i64 0]) (by kernel_rfl)) ?_
                rintro _ _ _ ⟨rfl, rfl, rfl⟩
                refine WL.restQ 2 [2, 3] (L' := [(2, .pointer (some ⟨b1, 0, none⟩)), (3, .bool true)]) (by kernel_rfl) ?_
                refine WP.ret ?_
                refine QP.blockR ?_
                refine QP.thenR ?_
                obtain rfl := Option.some.inj h
                exact QP.returnedM (rs := [.cell 2 83, .tmp 3]) (by kernel_rfl) (ResAll.cons (Res1.box (p := 2) (i := 0) (o := 0) (agg := true) (by rfl) ag83 (by kernel_rfl) (fun h => by cases h) (Nat.le_of_ble_eq_true rfl) (v := .agg #[.int .i64 0, .int .i64 0, .int .i64 1, .int .i64 1, .int .i64 0]) (by kernel_rfl)) (ResAll.cons (Res1.tmp (t := 3) (v := .bool true) (by kernel_rfl)) ResAll.nil)) (by kernel_rfl) (fun W hI => ⟨_, _, _, rfl, ⟨rfl, rfl, rfl⟩, (hI.less 0 rfl)⟩)
              · replace hc := ne_of_beq_false hc
                rw [if_neg hc] at h
                have hc8 := hc
                clear hc
                refine WP.seq ?_
                refine WP.seqP [2, 4, 22] (L' := [(2, .pointer (some ⟨b1, 0, none⟩)), (4, .int .i64 a0), (22, .bool (a0 == 7))]) (by kernel_rfl) ?_
                refine WP.cond (b := (a0 == 7)) (by kernel_rfl) (fun hc => ?_) (fun hc => ?_)
                · replace hc := eq_of_beq hc
                  rw [if_pos hc] at h
                  have hc9 := hc
                  clear hc
                  refine WP.skip ?_
                  refine QP.next ?_
                  refine WP.pick [2, 22] ?_
                  refine WP.cond (b := (a0 == 7)) (by kernel_rfl) (fun hc => ?_) (fun hc => ?_)
                  · replace hc := eq_of_beq hc
                    rw [if_pos hc] at h
                    have hc10 := hc
                    clear hc
                    refine WP.seqR ?_
                    refine WL.pure 0 1 [2, 25] (L' := [(2, .pointer (some ⟨b1, 0, none⟩)), (25, .agg #[.int .i64 0, .int .i64 0, .int .i64 2, .int .i64 1048576, .int .i64 0])]) (by kernel_rfl) (by decide) ?_
                    refine WL.op (op := .store 83 (.tmp 2) (.tmp 25)) (ty := 0) (d := none) (g := none) (by kernel_rfl) (by kernel_rfl) (by kernel_rfl) (Does.store_box (i := 0) (b := b1) (o := 0) (v := .agg #[.int .i64 0, .int .i64 0, .int .i64 2, .int .i64 1048576, .int .i64 0]) (by rfl) sz83 (by kernel_rfl) (by kernel_rfl) (by kernel_rfl) (Free.zero _) (Nat.le_of_ble_eq_true rfl) (cells' := #[.int .i64 0, .int .i64 0, .int .i64 2, .int .i64 1048576, .int .i64 0]) (by kernel_rfl)) ?_
                    rintro _ _ _ ⟨rfl, rfl, rfl⟩
                    refine WL.restQ 2 [2, 3] (L' := [(2, .pointer (some ⟨b1, 0, none⟩)), (3, .bool true)]) (by kernel_rfl) ?_
                    refine WP.ret ?_
                    refine QP.blockR ?_
                    refine QP.thenR ?_
                    obtain rfl := Option.some.inj h
                    exact QP.returnedM (rs := [.cell 2 83, .tmp 3]) (by kernel_rfl) (ResAll.cons (Res1.box (p := 2) (i := 0) (o := 0) (agg := true) (by rfl) ag83 (by kernel_rfl) (fun h => by cases h) (Nat.le_of_ble_eq_true rfl) (v := .agg #[.int .i64 0, .int .i64 0, .int .i64 2, .int .i64 1048576, .int .i64 0]) (by kernel_rfl)) (ResAll.cons (Res1.tmp (t := 3) (v := .bool true) (by kernel_rfl)) ResAll.nil)) (by kernel_rfl) (fun W hI => ⟨_, _, _, rfl, ⟨rfl, rfl, rfl⟩, (hI.less 0 rfl)⟩)
                  · replace hc := ne_of_beq_false hc
                    rw [if_neg hc] at h
                    have hc10 := hc
                    clear hc
                    refine WP.skip ?_
                    refine QP.blockN ?_
                    refine QP.next ?_
                    refine WP.pick [2] ?_
                    refine WP.seqR ?_
                    refine WL.pure 0 1 [2, 26] (L' := [(2, .pointer (some ⟨b1, 0, none⟩)), (26, .agg #[.int .i64 0, .int .i64 0, .int .i64 0, .int .i64 0, .int .i64 0])]) (by kernel_rfl) (by decide) ?_
                    refine WL.op (op := .store 83 (.tmp 2) (.tmp 26)) (ty := 0) (d := none) (g := none) (by kernel_rfl) (by kernel_rfl) (by kernel_rfl) (Does.store_box (i := 0) (b := b1) (o := 0) (v := .agg #[.int .i64 0, .int .i64 0, .int .i64 0, .int .i64 0, .int .i64 0]) (by rfl) sz83 (by kernel_rfl) (by kernel_rfl) (by kernel_rfl) (Free.zero _) (Nat.le_of_ble_eq_true rfl) (cells' := #[.int .i64 0, .int .i64 0, .int .i64 0, .int .i64 0, .int .i64 0]) (by kernel_rfl)) ?_
                    rintro _ _ _ ⟨rfl, rfl, rfl⟩
                    refine WL.restQ 2 [2, 3] (L' := [(2, .pointer (some ⟨b1, 0, none⟩)), (3, .bool false)]) (by kernel_rfl) ?_
                    refine WP.ret ?_
                    obtain rfl := Option.some.inj h
                    exact QP.returnedM (rs := [.cell 2 83, .tmp 3]) (by kernel_rfl) (ResAll.cons (Res1.box (p := 2) (i := 0) (o := 0) (agg := true) (by rfl) ag83 (by kernel_rfl) (fun h => by cases h) (Nat.le_of_ble_eq_true rfl) (v := .agg #[.int .i64 0, .int .i64 0, .int .i64 0, .int .i64 0, .int .i64 0]) (by kernel_rfl)) (ResAll.cons (Res1.tmp (t := 3) (v := .bool false) (by kernel_rfl)) ResAll.nil)) (by kernel_rfl) (fun W hI => ⟨_, _, _, rfl, ⟨rfl, rfl, rfl⟩, (hI.less 0 rfl)⟩)
                · replace hc := ne_of_beq_false hc
                  rw [if_neg hc] at h
                  have hc9 := hc
                  clear hc
                  refine WP.regionP [2, 22] (L' := [(2, .pointer (some ⟨b1, 0, none⟩)), (22, .bool (a0 == 8))]) (by kernel_rfl) ?_
                  refine QP.next ?_
                  refine WP.pick [2, 22] ?_
                  refine WP.cond (b := (a0 == 8)) (by kernel_rfl) (fun hc => ?_) (fun hc => ?_)
                  · replace hc := eq_of_beq hc
                    rw [if_pos hc] at h
                    have hc11 := hc
                    clear hc
                    refine WP.seqR ?_
                    refine WL.pure 0 1 [2, 25] (L' := [(2, .pointer (some ⟨b1, 0, none⟩)), (25, .agg #[.int .i64 0, .int .i64 0, .int .i64 2, .int .i64 1048576, .int .i64 0])]) (by kernel_rfl) (by decide) ?_
                    refine WL.op (op := .store 83 (.tmp 2) (.tmp 25)) (ty := 0) (d := none) (g := none) (by kernel_rfl) (by kernel_rfl) (by kernel_rfl) (Does.store_box (i := 0) (b := b1) (o := 0) (v := .agg #[.int .i64 0, .int .i64 0, .int .i64 2, .int .i64 1048576, .int .i64 0]) (by rfl) sz83 (by kernel_rfl) (by kernel_rfl) (by kernel_rfl) (Free.zero _) (Nat.le_of_ble_eq_true rfl) (cells' := #[.int .i64 0, .int .i64 0, .int .i64 2, .int .i64 1048576, .int .i64 0]) (by kernel_rfl)) ?_
                    rintro _ _ _ ⟨rfl, rfl, rfl⟩
                    refine WL.restQ 2 [2, 3] (L' := [(2, .pointer (some ⟨b1, 0, none⟩)), (3, .bool true)]) (by kernel_rfl) ?_
                    refine WP.ret ?_
                    refine QP.blockR ?_
                    refine QP.thenR ?_
                    obtain rfl := Option.some.inj h
                    exact QP.returnedM (rs := [.cell 2 83, .tmp 3]) (by kernel_rfl) (ResAll.cons (Res1.box (p := 2) (i := 0) (o := 0) (agg := true) (by rfl) ag83 (by kernel_rfl) (fun h => by cases h) (Nat.le_of_ble_eq_true rfl) (v := .agg #[.int .i64 0, .int .i64 0, .int .i64 2, .int .i64 1048576, .int .i64 0]) (by kernel_rfl)) (ResAll.cons (Res1.tmp (t := 3) (v := .bool true) (by kernel_rfl)) ResAll.nil)) (by kernel_rfl) (fun W hI => ⟨_, _, _, rfl, ⟨rfl, rfl, rfl⟩, (hI.less 0 rfl)⟩)
                  · replace hc := ne_of_beq_false hc
                    rw [if_neg hc] at h
                    have hc11 := hc
                    clear hc
                    refine WP.skip ?_
                    refine QP.blockN ?_
                    refine QP.next ?_
                    refine WP.pick [2] ?_
                    refine WP.seqR ?_
                    refine WL.pure 0 1 [2, 26] (L' := [(2, .pointer (some ⟨b1, 0, none⟩)), (26, .agg #[.int .i64 0, .int .i64 0, .int .i64 0, .int .i64 0, .int .i64 0])]) (by kernel_rfl) (by decide) ?_
                    refine WL.op (op := .store 83 (.tmp 2) (.tmp 26)) (ty := 0) (d := none) (g := none) (by kernel_rfl) (by kernel_rfl) (by kernel_rfl) (Does.store_box (i := 0) (b := b1) (o := 0) (v := .agg #[.int .i64 0, .int .i64 0, .int .i64 0, .int .i64 0, .int .i64 0]) (by rfl) sz83 (by kernel_rfl) (by kernel_rfl) (by kernel_rfl) (Free.zero _) (Nat.le_of_ble_eq_true rfl) (cells' := #[.int .i64 0, .int .i64 0, .int .i64 0, .int .i64 0, .int .i64 0]) (by kernel_rfl)) ?_
                    rintro _ _ _ ⟨rfl, rfl, rfl⟩
                    refine WL.restQ 2 [2, 3] (L' := [(2, .pointer (some ⟨b1, 0, none⟩)), (3, .bool false)]) (by kernel_rfl) ?_
                    refine WP.ret ?_
                    obtain rfl := Option.some.inj h
                    exact QP.returnedM (rs := [.cell 2 83, .tmp 3]) (by kernel_rfl) (ResAll.cons (Res1.box (p := 2) (i := 0) (o := 0) (agg := true) (by rfl) ag83 (by kernel_rfl) (fun h => by cases h) (Nat.le_of_ble_eq_true rfl) (v := .agg #[.int .i64 0, .int .i64 0, .int .i64 0, .int .i64 0, .int .i64 0]) (by kernel_rfl)) (ResAll.cons (Res1.tmp (t := 3) (v := .bool false) (by kernel_rfl)) ResAll.nil)) (by kernel_rfl) (fun W hI => ⟨_, _, _, rfl, ⟨rfl, rfl, rfl⟩, (hI.less 0 rfl)⟩)
          · replace hc := ne_of_beq_false hc
            rw [if_neg hc] at h
            have hc6 := hc
            clear hc
            refine WP.regionP [2, 4, 15] (L' := [(2, .pointer (some ⟨b1, 0, none⟩)), (4, .int .i64 a0), (15, .bool (a0 == 6))]) (by kernel_rfl) ?_
            refine QP.next ?_
            refine WP.pick [2, 4, 15] ?_
            refine WP.cond (b := (a0 == 6)) (by kernel_rfl) (fun hc => ?_) (fun hc => ?_)
            · replace hc := eq_of_beq hc
              rw [if_pos hc] at h
              have hc12 := hc
              clear hc
              refine WP.seqR ?_
              refine WL.pure 0 1 [2, 18] (L' := [(2, .pointer (some ⟨b1, 0, none⟩)), (18, .agg #[.int .i64 0, .int .i64 0, .int .i64 0, .int .i64 0, .int .i64 1099511627776])]) (by kernel_rfl) (by decide) ?_
              refine WL.op (op := .store 83 (.tmp 2) (.tmp 18)) (ty := 0) (d := none) (g := none) (by kernel_rfl) (by kernel_rfl) (by kernel_rfl) (Does.store_box (i := 0) (b := b1) (o := 0) (v := .agg #[.int .i64 0, .int .i64 0, .int .i64 0, .int .i64 0, .int .i64 1099511627776]) (by rfl) sz83 (by kernel_rfl) (by kernel_rfl) (by kernel_rfl) (Free.zero _) (Nat.le_of_ble_eq_true rfl) (cells' := #[.int .i64 0, .int .i64 0, .int .i64 0, .int .i64 0, .int .i64 1099511627776]) (by kernel_rfl)) ?_
              rintro _ _ _ ⟨rfl, rfl, rfl⟩
              refine WL.restQ 2 [2, 3] (L' := [(2, .pointer (some ⟨b1, 0, none⟩)), (3, .bool true)]) (by kernel_rfl) ?_
              refine WP.ret ?_
              refine QP.blockR ?_
              refine QP.thenR ?_
              obtain rfl := Option.some.inj h
              exact QP.returnedM (rs := [.cell 2 83, .tmp 3]) (by kernel_rfl) (ResAll.cons (Res1.box (p := 2) (i := 0) (o := 0) (agg := true) (by rfl) ag83 (by kernel_rfl) (fun h => by cases h) (Nat.le_of_ble_eq_true rfl) (v := .agg #[.int .i64 0, .int .i64 0, .int .i64 0, .int .i64 0, .int .i64 1099511627776]) (by kernel_rfl)) (ResAll.cons (Res1.tmp (t := 3) (v := .bool true) (by kernel_rfl)) ResAll.nil)) (by kernel_rfl) (fun W hI => ⟨_, _, _, rfl, ⟨rfl, rfl, rfl⟩, (hI.less 0 rfl)⟩)
            · replace hc := ne_of_beq_false hc
              rw [if_neg hc] at h
              have hc12 := hc
              clear hc
              refine WP.seqP [2, 4, 19] (L' := [(2, .pointer (some ⟨b1, 0, none⟩)), (4, .int .i64 a0), (19, .bool (a0 == 9))]) (by kernel_rfl) ?_
              refine WP.cond (b := (a0 == 9)) (by kernel_rfl) (fun hc => ?_) (fun hc => ?_)
              · replace hc := eq_of_beq hc
                rw [if_pos hc] at h
                have hc13 := hc
                clear hc
                refine WP.seqR ?_
                refine WL.pure 0 1 [2, 21] (L' := [(2, .pointer (some ⟨b1, 0, none⟩)), (21, .agg #[.int .i64 0, .int .i64 0, .int .i64 1, .int .i64 1, .int .i64 0])]) (by kernel_rfl) (by decide) ?_
                refine WL.op (op := .store 83 (.tmp 2) (.tmp 21)) (ty := 0) (d := none) (g := none) (by kernel_rfl) (by kernel_rfl) (by kernel_rfl) (Does.store_box (i := 0) (b := b1) (o := 0) (v := .agg #[.int .i64 0, .int .i64 0, .int .i64 1, .int .i64 1, .int .i64 0]) (by rfl) sz83 (by kernel_rfl) (by kernel_rfl) (by kernel_rfl) (Free.zero _) (Nat.le_of_ble_eq_true rfl) (cells' := #[.int .i64 0, .int .i64 0, .int .i64 1, .int .i64 1, .int .i64 0]) (by kernel_rfl)) ?_
                rintro _ _ _ ⟨rfl, rfl, rfl⟩
                refine WL.restQ 2 [2, 3] (L' := [(2, .pointer (some ⟨b1, 0, none⟩)), (3, .bool true)]) (by kernel_rfl) ?_
                refine WP.ret ?_
                refine QP.blockR ?_
                refine QP.thenR ?_
                obtain rfl := Option.some.inj h
                exact QP.returnedM (rs := [.cell 2 83, .tmp 3]) (by kernel_rfl) (ResAll.cons (Res1.box (p := 2) (i := 0) (o := 0) (agg := true) (by rfl) ag83 (by kernel_rfl) (fun h => by cases h) (Nat.le_of_ble_eq_true rfl) (v := .agg #[.int .i64 0, .int .i64 0, .int .i64 1, .int .i64 1, .int .i64 0]) (by kernel_rfl)) (ResAll.cons (Res1.tmp (t := 3) (v := .bool true) (by kernel_rfl)) ResAll.nil)) (by kernel_rfl) (fun W hI => ⟨_, _, _, rfl, ⟨rfl, rfl, rfl⟩, (hI.less 0 rfl)⟩)
              · replace hc := ne_of_beq_false hc
                rw [if_neg hc] at h
                have hc13 := hc
                clear hc
                refine WP.seq ?_
                refine WP.seqP [2, 4, 22] (L' := [(2, .pointer (some ⟨b1, 0, none⟩)), (4, .int .i64 a0), (22, .bool (a0 == 7))]) (by kernel_rfl) ?_
                refine WP.cond (b := (a0 == 7)) (by kernel_rfl) (fun hc => ?_) (fun hc => ?_)
                · replace hc := eq_of_beq hc
                  rw [if_pos hc] at h
                  have hc14 := hc
                  clear hc
                  refine WP.skip ?_
                  refine QP.next ?_
                  refine WP.pick [2, 22] ?_
                  refine WP.cond (b := (a0 == 7)) (by kernel_rfl) (fun hc => ?_) (fun hc => ?_)
                  · replace hc := eq_of_beq hc
                    rw [if_pos hc] at h
                    have hc15 := hc
                    clear hc
                    refine WP.seqR ?_
                    refine WL.pure 0 1 [2, 25] (L' := [(2, .pointer (some ⟨b1, 0, none⟩)), (25, .agg #[.int .i64 0, .int .i64 0, .int .i64 2, .int .i64 1048576, .int .i64 0])]) (by kernel_rfl) (by decide) ?_
                    refine WL.op (op := .store 83 (.tmp 2) (.tmp 25)) (ty := 0) (d := none) (g := none) (by kernel_rfl) (by kernel_rfl) (by kernel_rfl) (Does.store_box (i := 0) (b := b1) (o := 0) (v := .agg #[.int .i64 0, .int .i64 0, .int .i64 2, .int .i64 1048576, .int .i64 0]) (by rfl) sz83 (by kernel_rfl) (by kernel_rfl) (by kernel_rfl) (Free.zero _) (Nat.le_of_ble_eq_true rfl) (cells' := #[.int .i64 0, .int .i64 0, .int .i64 2, .int .i64 1048576, .int .i64 0]) (by kernel_rfl)) ?_
                    rintro _ _ _ ⟨rfl, rfl, rfl⟩
                    refine WL.restQ 2 [2, 3] (L' := [(2, .pointer (some ⟨b1, 0, none⟩)), (3, .bool true)]) (by kernel_rfl) ?_
                    refine WP.ret ?_
                    refine QP.blockR ?_
                    refine QP.thenR ?_
                    obtain rfl := Option.some.inj h
                    exact QP.returnedM (rs := [.cell 2 83, .tmp 3]) (by kernel_rfl) (ResAll.cons (Res1.box (p := 2) (i := 0) (o := 0) (agg := true) (by rfl) ag83 (by kernel_rfl) (fun h => by cases h) (Nat.le_of_ble_eq_true rfl) (v := .agg #[.int .i64 0, .int .i64 0, .int .i64 2, .int .i64 1048576, .int .i64 0]) (by kernel_rfl)) (ResAll.cons (Res1.tmp (t := 3) (v := .bool true) (by kernel_rfl)) ResAll.nil)) (by kernel_rfl) (fun W hI => ⟨_, _, _, rfl, ⟨rfl, rfl, rfl⟩, (hI.less 0 rfl)⟩)
                  · replace hc := ne_of_beq_false hc
                    rw [if_neg hc] at h
                    have hc15 := hc
                    clear hc
                    refine WP.skip ?_
                    refine QP.blockN ?_
                    refine QP.next ?_
                    refine WP.pick [2] ?_
                    refine WP.seqR ?_
                    refine WL.pure 0 1 [2, 26] (L' := [(2, .pointer (some ⟨b1, 0, none⟩)), (26, .agg #[.int .i64 0, .int .i64 0, .int .i64 0, .int .i64 0, .int .i64 0])]) (by kernel_rfl) (by decide) ?_
                    refine WL.op (op := .store 83 (.tmp 2) (.tmp 26)) (ty := 0) (d := none) (g := none) (by kernel_rfl) (by kernel_rfl) (by kernel_rfl) (Does.store_box (i := 0) (b := b1) (o := 0) (v := .agg #[.int .i64 0, .int .i64 0, .int .i64 0, .int .i64 0, .int .i64 0]) (by rfl) sz83 (by kernel_rfl) (by kernel_rfl) (by kernel_rfl) (Free.zero _) (Nat.le_of_ble_eq_true rfl) (cells' := #[.int .i64 0, .int .i64 0, .int .i64 0, .int .i64 0, .int .i64 0]) (by kernel_rfl)) ?_
                    rintro _ _ _ ⟨rfl, rfl, rfl⟩
                    refine WL.restQ 2 [2, 3] (L' := [(2, .pointer (some ⟨b1, 0, none⟩)), (3, .bool false)]) (by kernel_rfl) ?_
                    refine WP.ret ?_
                    obtain rfl := Option.some.inj h
                    exact QP.returnedM (rs := [.cell 2 83, .tmp 3]) (by kernel_rfl) (ResAll.cons (Res1.box (p := 2) (i := 0) (o := 0) (agg := true) (by rfl) ag83 (by kernel_rfl) (fun h => by cases h) (Nat.le_of_ble_eq_true rfl) (v := .agg #[.int .i64 0, .int .i64 0, .int .i64 0, .int .i64 0, .int .i64 0]) (by kernel_rfl)) (ResAll.cons (Res1.tmp (t := 3) (v := .bool false) (by kernel_rfl)) ResAll.nil)) (by kernel_rfl) (fun W hI => ⟨_, _, _, rfl, ⟨rfl, rfl, rfl⟩, (hI.less 0 rfl)⟩)
                · replace hc := ne_of_beq_false hc
                  rw [if_neg hc] at h
                  have hc14 := hc
                  clear hc
                  refine WP.regionP [2, 22] (L' := [(2, .pointer (some ⟨b1, 0, none⟩)), (22, .bool (a0 == 8))]) (by kernel_rfl) ?_
                  refine QP.next ?_
                  refine WP.pick [2, 22] ?_
                  refine WP.cond (b := (a0 == 8)) (by kernel_rfl) (fun hc => ?_) (fun hc => ?_)
                  · replace hc := eq_of_beq hc
                    rw [if_pos hc] at h
                    have hc16 := hc
                    clear hc
                    refine WP.seqR ?_
                    refine WL.pure 0 1 [2, 25] (L' := [(2, .pointer (some ⟨b1, 0, none⟩)), (25, .agg #[.int .i64 0, .int .i64 0, .int .i64 2, .int .i64 1048576, .int .i64 0])]) (by kernel_rfl) (by decide) ?_
                    refine WL.op (op := .store 83 (.tmp 2) (.tmp 25)) (ty := 0) (d := none) (g := none) (by kernel_rfl) (by kernel_rfl) (by kernel_rfl) (Does.store_box (i := 0) (b := b1) (o := 0) (v := .agg #[.int .i64 0, .int .i64 0, .int .i64 2, .int .i64 1048576, .int .i64 0]) (by rfl) sz83 (by kernel_rfl) (by kernel_rfl) (by kernel_rfl) (Free.zero _) (Nat.le_of_ble_eq_true rfl) (cells' := #[.int .i64 0, .int .i64 0, .int .i64 2, .int .i64 1048576, .int .i64 0]) (by kernel_rfl)) ?_
                    rintro _ _ _ ⟨rfl, rfl, rfl⟩
                    refine WL.restQ 2 [2, 3] (L' := [(2, .pointer (some ⟨b1, 0, none⟩)), (3, .bool true)]) (by kernel_rfl) ?_
                    refine WP.ret ?_
                    refine QP.blockR ?_
                    refine QP.thenR ?_
                    obtain rfl := Option.some.inj h
                    exact QP.returnedM (rs := [.cell 2 83, .tmp 3]) (by kernel_rfl) (ResAll.cons (Res1.box (p := 2) (i := 0) (o := 0) (agg := true) (by rfl) ag83 (by kernel_rfl) (fun h => by cases h) (Nat.le_of_ble_eq_true rfl) (v := .agg #[.int .i64 0, .int .i64 0, .int .i64 2, .int .i64 1048576, .int .i64 0]) (by kernel_rfl)) (ResAll.cons (Res1.tmp (t := 3) (v := .bool true) (by kernel_rfl)) ResAll.nil)) (by kernel_rfl) (fun W hI => ⟨_, _, _, rfl, ⟨rfl, rfl, rfl⟩, (hI.less 0 rfl)⟩)
                  · replace hc := ne_of_beq_false hc
                    rw [if_neg hc] at h
                    have hc16 := hc
                    clear hc
                    refine WP.skip ?_
                    refine QP.blockN ?_
                    refine QP.next ?_
                    refine WP.pick [2] ?_
                    refine WP.seqR ?_
                    refine WL.pure 0 1 [2, 26] (L' := [(2, .pointer (some ⟨b1, 0, none⟩)), (26, .agg #[.int .i64 0, .int .i64 0, .int .i64 0, .int .i64 0, .int .i64 0])]) (by kernel_rfl) (by decide) ?_
                    refine WL.op (op := .store 83 (.tmp 2) (.tmp 26)) (ty := 0) (d := none) (g := none) (by kernel_rfl) (by kernel_rfl) (by kernel_rfl) (Does.store_box (i := 0) (b := b1) (o := 0) (v := .agg #[.int .i64 0, .int .i64 0, .int .i64 0, .int .i64 0, .int .i64 0]) (by rfl) sz83 (by kernel_rfl) (by kernel_rfl) (by kernel_rfl) (Free.zero _) (Nat.le_of_ble_eq_true rfl) (cells' := #[.int .i64 0, .int .i64 0, .int .i64 0, .int .i64 0, .int .i64 0]) (by kernel_rfl)) ?_
                    rintro _ _ _ ⟨rfl, rfl, rfl⟩
                    refine WL.restQ 2 [2, 3] (L' := [(2, .pointer (some ⟨b1, 0, none⟩)), (3, .bool false)]) (by kernel_rfl) ?_
                    refine WP.ret ?_
                    obtain rfl := Option.some.inj h
                    exact QP.returnedM (rs := [.cell 2 83, .tmp 3]) (by kernel_rfl) (ResAll.cons (Res1.box (p := 2) (i := 0) (o := 0) (agg := true) (by rfl) ag83 (by kernel_rfl) (fun h => by cases h) (Nat.le_of_ble_eq_true rfl) (v := .agg #[.int .i64 0, .int .i64 0, .int .i64 0, .int .i64 0, .int .i64 0]) (by kernel_rfl)) (ResAll.cons (Res1.tmp (t := 3) (v := .bool false) (by kernel_rfl)) ResAll.nil)) (by kernel_rfl) (fun W hI => ⟨_, _, _, rfl, ⟨rfl, rfl, rfl⟩, (hI.less 0 rfl)⟩)
  · replace hc := ne_of_beq_false hc
    rw [if_neg hc] at h
    have hc2 := hc
    clear hc
    refine WP.regionP [2, 4, 5] (L' := [(2, .pointer (some ⟨b1, 0, none⟩)), (4, .int .i64 a0), (5, .bool (a0 == 2))]) (by kernel_rfl) ?_
    refine QP.next ?_
    refine WP.pick [2, 4, 5] ?_
    refine WP.cond (b := (a0 == 2)) (by kernel_rfl) (fun hc => ?_) (fun hc => ?_)
    · replace hc := eq_of_beq hc
      rw [if_pos hc] at h
      have hc17 := hc
      clear hc
      refine WP.seqR ?_
      refine WL.pure 0 1 [2, 8] (L' := [(2, .pointer (some ⟨b1, 0, none⟩)), (8, .agg #[.int .i64 1, .int .i64 1, .int .i64 0, .int .i64 0, .int .i64 0])]) (by kernel_rfl) (by decide) ?_
      refine WL.op (op := .store 83 (.tmp 2) (.tmp 8)) (ty := 0) (d := none) (g := none) (by kernel_rfl) (by kernel_rfl) (by kernel_rfl) (Does.store_box (i := 0) (b := b1) (o := 0) (v := .agg #[.int .i64 1, .int .i64 1, .int .i64 0, .int .i64 0, .int .i64 0]) (by rfl) sz83 (by kernel_rfl) (by kernel_rfl) (by kernel_rfl) (Free.zero _) (Nat.le_of_ble_eq_true rfl) (cells' := #[.int .i64 1, .int .i64 1, .int .i64 0, .int .i64 0, .int .i64 0]) (by kernel_rfl)) ?_
      rintro _ _ _ ⟨rfl, rfl, rfl⟩
      refine WL.restQ 2 [2, 3] (L' := [(2, .pointer (some ⟨b1, 0, none⟩)), (3, .bool true)]) (by kernel_rfl) ?_
      refine WP.ret ?_
      refine QP.blockR ?_
      refine QP.thenR ?_
      obtain rfl := Option.some.inj h
      exact QP.returnedM (rs := [.cell 2 83, .tmp 3]) (by kernel_rfl) (ResAll.cons (Res1.box (p := 2) (i := 0) (o := 0) (agg := true) (by rfl) ag83 (by kernel_rfl) (fun h => by cases h) (Nat.le_of_ble_eq_true rfl) (v := .agg #[.int .i64 1, .int .i64 1, .int .i64 0, .int .i64 0, .int .i64 0]) (by kernel_rfl)) (ResAll.cons (Res1.tmp (t := 3) (v := .bool true) (by kernel_rfl)) ResAll.nil)) (by kernel_rfl) (fun W hI => ⟨_, _, _, rfl, ⟨rfl, rfl, rfl⟩, (hI.less 0 rfl)⟩)
    · replace hc := ne_of_beq_false hc
      rw [if_neg hc] at h
      have hc17 := hc
      clear hc
      refine WP.seqP [2, 4, 9] (L' := [(2, .pointer (some ⟨b1, 0, none⟩)), (4, .int .i64 a0), (9, .bool (a0 == 3))]) (by kernel_rfl) ?_
      refine WP.cond (b := (a0 == 3)) (by kernel_rfl) (fun hc => ?_) (fun hc => ?_)
      · replace hc := eq_of_beq hc
        rw [if_pos hc] at h
        have hc18 := hc
        clear hc
        refine WP.seqR ?_
        refine WL.pure 0 1 [2, 11] (L' := [(2, .pointer (some ⟨b1, 0, none⟩)), (11, .agg #[.int .i64 1, .int .i64 16, .int .i64 0, .int .i64 0, .int .i64 0])]) (by kernel_rfl) (by decide) ?_
        refine WL.op (op := .store 83 (.tmp 2) (.tmp 11)) (ty := 0) (d := none) (g := none) (by kernel_rfl) (by kernel_rfl) (by kernel_rfl) (Does.store_box (i := 0) (b := b1) (o := 0) (v := .agg #[.int .i64 1, .int .i64 16, .int .i64 0, .int .i64 0, .int .i64 0]) (by rfl) sz83 (by kernel_rfl) (by kernel_rfl) (by kernel_rfl) (Free.zero _) (Nat.le_of_ble_eq_true rfl) (cells' := #[.int .i64 1, .int .i64 16, .int .i64 0, .int .i64 0, .int .i64 0]) (by kernel_rfl)) ?_
        rintro _ _ _ ⟨rfl, rfl, rfl⟩
        refine WL.restQ 2 [2, 3] (L' := [(2, .pointer (some ⟨b1, 0, none⟩)), (3, .bool true)]) (by kernel_rfl) ?_
        refine WP.ret ?_
        refine QP.blockR ?_
        refine QP.thenR ?_
        obtain rfl := Option.some.inj h
        exact QP.returnedM (rs := [.cell 2 83, .tmp 3]) (by kernel_rfl) (ResAll.cons (Res1.box (p := 2) (i := 0) (o := 0) (agg := true) (by rfl) ag83 (by kernel_rfl) (fun h => by cases h) (Nat.le_of_ble_eq_true rfl) (v := .agg #[.int .i64 1, .int .i64 16, .int .i64 0, .int .i64 0, .int .i64 0]) (by kernel_rfl)) (ResAll.cons (Res1.tmp (t := 3) (v := .bool true) (by kernel_rfl)) ResAll.nil)) (by kernel_rfl) (fun W hI => ⟨_, _, _, rfl, ⟨rfl, rfl, rfl⟩, (hI.less 0 rfl)⟩)
      · replace hc := ne_of_beq_false hc
        rw [if_neg hc] at h
        have hc18 := hc
        clear hc
        refine WP.seqP [2, 4, 12] (L' := [(2, .pointer (some ⟨b1, 0, none⟩)), (4, .int .i64 a0), (12, .bool (a0 == 4))]) (by kernel_rfl) ?_
        refine WP.cond (b := (a0 == 4)) (by kernel_rfl) (fun hc => ?_) (fun hc => ?_)
        · replace hc := eq_of_beq hc
          rw [if_pos hc] at h
          have hc19 := hc
          clear hc
          refine WP.seqR ?_
          refine WL.pure 0 1 [2, 14] (L' := [(2, .pointer (some ⟨b1, 0, none⟩)), (14, .agg #[.int .i64 0, .int .i64 0, .int .i64 0, .int .i64 0, .int .i64 7])]) (by kernel_rfl) (by decide) ?_
          refine WL.op (op := .store 83 (.tmp 2) (.tmp 14)) (ty := 0) (d := none) (g := none) (by kernel_rfl) (by kernel_rfl) (by kernel_rfl) (Does.store_box (i := 0) (b := b1) (o := 0) (v := .agg #[.int .i64 0, .int .i64 0, .int .i64 0, .int .i64 0, .int .i64 7]) (by rfl) sz83 (by kernel_rfl) (by kernel_rfl) (by kernel_rfl) (Free.zero _) (Nat.le_of_ble_eq_true rfl) (cells' := #[.int .i64 0, .int .i64 0, .int .i64 0, .int .i64 0, .int .i64 7]) (by kernel_rfl)) ?_
          rintro _ _ _ ⟨rfl, rfl, rfl⟩
          refine WL.restQ 2 [2, 3] (L' := [(2, .pointer (some ⟨b1, 0, none⟩)), (3, .bool true)]) (by kernel_rfl) ?_
          refine WP.ret ?_
          refine QP.blockR ?_
          refine QP.thenR ?_
          obtain rfl := Option.some.inj h
          exact QP.returnedM (rs := [.cell 2 83, .tmp 3]) (by kernel_rfl) (ResAll.cons (Res1.box (p := 2) (i := 0) (o := 0) (agg := true) (by rfl) ag83 (by kernel_rfl) (fun h => by cases h) (Nat.le_of_ble_eq_true rfl) (v := .agg #[.int .i64 0, .int .i64 0, .int .i64 0, .int .i64 0, .int .i64 7]) (by kernel_rfl)) (ResAll.cons (Res1.tmp (t := 3) (v := .bool true) (by kernel_rfl)) ResAll.nil)) (by kernel_rfl) (fun W hI => ⟨_, _, _, rfl, ⟨rfl, rfl, rfl⟩, (hI.less 0 rfl)⟩)
        · replace hc := ne_of_beq_false hc
          rw [if_neg hc] at h
          have hc19 := hc
          clear hc
          refine WP.seq ?_
          refine WP.seqP [2, 4, 15] (L' := [(2, .pointer (some ⟨b1, 0, none⟩)), (4, .int .i64 a0), (15, .bool (a0 == 5))]) (by kernel_rfl) ?_
          refine WP.cond (b := (a0 == 5)) (by kernel_rfl) (fun hc => ?_) (fun hc => ?_)
          · replace hc := eq_of_beq hc
            rw [if_pos hc] at h
            have hc20 := hc
            clear hc
            refine WP.skip ?_
            refine QP.next ?_
            refine WP.pick [2, 4, 15] ?_
            refine WP.cond (b := (a0 == 5)) (by kernel_rfl) (fun hc => ?_) (fun hc => ?_)
            · replace hc := eq_of_beq hc
              rw [if_pos hc] at h
              have hc21 := hc
              clear hc
              refine WP.seqR ?_
              refine WL.pure 0 1 [2, 18] (L' := [(2, .pointer (some ⟨b1, 0, none⟩)), (18, .agg #[.int .i64 0, .int .i64 0, .int .i64 0, .int .i64 0, .int .i64 1099511627776])]) (by kernel_rfl) (by decide) ?_
              refine WL.op (op := .store 83 (.tmp 2) (.tmp 18)) (ty := 0) (d := none) (g := none) (by kernel_rfl) (by kernel_rfl) (by kernel_rfl) (Does.store_box (i := 0) (b := b1) (o := 0) (v := .agg #[.int .i64 0, .int .i64 0, .int .i64 0, .int .i64 0, .int .i64 1099511627776]) (by rfl) sz83 (by kernel_rfl) (by kernel_rfl) (by kernel_rfl) (Free.zero _) (Nat.le_of_ble_eq_true rfl) (cells' := #[.int .i64 0, .int .i64 0, .int .i64 0, .int .i64 0, .int .i64 1099511627776]) (by kernel_rfl)) ?_
              rintro _ _ _ ⟨rfl, rfl, rfl⟩
              refine WL.restQ 2 [2, 3] (L' := [(2, .pointer (some ⟨b1, 0, none⟩)), (3, .bool true)]) (by kernel_rfl) ?_
              refine WP.ret ?_
              refine QP.blockR ?_
              refine QP.thenR ?_
              obtain rfl := Option.some.inj h
              exact QP.returnedM (rs := [.cell 2 83, .tmp 3]) (by kernel_rfl) (ResAll.cons (Res1.box (p := 2) (i := 0) (o := 0) (agg := true) (by rfl) ag83 (by kernel_rfl) (fun h => by cases h) (Nat.le_of_ble_eq_true rfl) (v := .agg #[.int .i64 0, .int .i64 0, .int .i64 0, .int .i64 0, .int .i64 1099511627776]) (by kernel_rfl)) (ResAll.cons (Res1.tmp (t := 3) (v := .bool true) (by kernel_rfl)) ResAll.nil)) (by kernel_rfl) (fun W hI => ⟨_, _, _, rfl, ⟨rfl, rfl, rfl⟩, (hI.less 0 rfl)⟩)
            · replace hc := ne_of_beq_false hc
              rw [if_neg hc] at h
              have hc21 := hc
              clear hc
              refine WP.seqP [2, 4, 19] (L' := [(2, .pointer (some ⟨b1, 0, none⟩)), (4, .int .i64 a0), (19, .bool (a0 == 9))]) (by kernel_rfl) ?_
              refine WP.cond (b := (a0 == 9)) (by kernel_rfl) (fun hc => ?_) (fun hc => ?_)
              · replace hc := eq_of_beq hc
                rw [if_pos hc] at h
                have hc22 := hc
                clear hc
                refine WP.seqR ?_
                refine WL.pure 0 1 [2, 21] (L' := [(2, .pointer (some ⟨b1, 0, none⟩)), (21, .agg #[.int .i64 0, .int .i64 0, .int .i64 1, .int .i64 1, .int .i64 0])]) (by kernel_rfl) (by decide) ?_
                refine WL.op (op := .store 83 (.tmp 2) (.tmp 21)) (ty := 0) (d := none) (g := none) (by kernel_rfl) (by kernel_rfl) (by kernel_rfl) (Does.store_box (i := 0) (b := b1) (o := 0) (v := .agg #[.int .i64 0, .int .i64 0, .int .i64 1, .int .i64 1, .int .i64 0]) (by rfl) sz83 (by kernel_rfl) (by kernel_rfl) (by kernel_rfl) (Free.zero _) (Nat.le_of_ble_eq_true rfl) (cells' := #[.int .i64 0, .int .i64 0, .int .i64 1, .int .i64 1, .int .i64 0]) (by kernel_rfl)) ?_
                rintro _ _ _ ⟨rfl, rfl, rfl⟩
                refine WL.restQ 2 [2, 3] (L' := [(2, .pointer (some ⟨b1, 0, none⟩)), (3, .bool true)]) (by kernel_rfl) ?_
                refine WP.ret ?_
                refine QP.blockR ?_
                refine QP.thenR ?_
                obtain rfl := Option.some.inj h
                exact QP.returnedM (rs := [.cell 2 83, .tmp 3]) (by kernel_rfl) (ResAll.cons (Res1.box (p := 2) (i := 0) (o := 0) (agg := true) (by rfl) ag83 (by kernel_rfl) (fun h => by cases h) (Nat.le_of_ble_eq_true rfl) (v := .agg #[.int .i64 0, .int .i64 0, .int .i64 1, .int .i64 1, .int .i64 0]) (by kernel_rfl)) (ResAll.cons (Res1.tmp (t := 3) (v := .bool true) (by kernel_rfl)) ResAll.nil)) (by kernel_rfl) (fun W hI => ⟨_, _, _, rfl, ⟨rfl, rfl, rfl⟩, (hI.less 0 rfl)⟩)
              · replace hc := ne_of_beq_false hc
                rw [if_neg hc] at h
                have hc22 := hc
                clear hc
                refine WP.seq ?_
                refine WP.seqP [2, 4, 22] (L' := [(2, .pointer (some ⟨b1, 0, none⟩)), (4, .int .i64 a0), (22, .bool (a0 == 7))]) (by kernel_rfl) ?_
                refine WP.cond (b := (a0 == 7)) (by kernel_rfl) (fun hc => ?_) (fun hc => ?_)
                · replace hc := eq_of_beq hc
                  rw [if_pos hc] at h
                  have hc23 := hc
                  clear hc
                  refine WP.skip ?_
                  refine QP.next ?_
                  refine WP.pick [2, 22] ?_
                  refine WP.cond (b := (a0 == 7)) (by kernel_rfl) (fun hc => ?_) (fun hc => ?_)
                  · replace hc := eq_of_beq hc
                    rw [if_pos hc] at h
                    have hc24 := hc
                    clear hc
                    refine WP.seqR ?_
                    refine WL.pure 0 1 [2, 25] (L' := [(2, .pointer (some ⟨b1, 0, none⟩)), (25, .agg #[.int .i64 0, .int .i64 0, .int .i64 2, .int .i64 1048576, .int .i64 0])]) (by kernel_rfl) (by decide) ?_
                    refine WL.op (op := .store 83 (.tmp 2) (.tmp 25)) (ty := 0) (d := none) (g := none) (by kernel_rfl) (by kernel_rfl) (by kernel_rfl) (Does.store_box (i := 0) (b := b1) (o := 0) (v := .agg #[.int .i64 0, .int .i64 0, .int .i64 2, .int .i64 1048576, .int .i64 0]) (by rfl) sz83 (by kernel_rfl) (by kernel_rfl) (by kernel_rfl) (Free.zero _) (Nat.le_of_ble_eq_true rfl) (cells' := #[.int .i64 0, .int .i64 0, .int .i64 2, .int .i64 1048576, .int .i64 0]) (by kernel_rfl)) ?_
                    rintro _ _ _ ⟨rfl, rfl, rfl⟩
                    refine WL.restQ 2 [2, 3] (L' := [(2, .pointer (some ⟨b1, 0, none⟩)), (3, .bool true)]) (by kernel_rfl) ?_
                    refine WP.ret ?_
                    refine QP.blockR ?_
                    refine QP.thenR ?_
                    obtain rfl := Option.some.inj h
                    exact QP.returnedM (rs := [.cell 2 83, .tmp 3]) (by kernel_rfl) (ResAll.cons (Res1.box (p := 2) (i := 0) (o := 0) (agg := true) (by rfl) ag83 (by kernel_rfl) (fun h => by cases h) (Nat.le_of_ble_eq_true rfl) (v := .agg #[.int .i64 0, .int .i64 0, .int .i64 2, .int .i64 1048576, .int .i64 0]) (by kernel_rfl)) (ResAll.cons (Res1.tmp (t := 3) (v := .bool true) (by kernel_rfl)) ResAll.nil)) (by kernel_rfl) (fun W hI => ⟨_, _, _, rfl, ⟨rfl, rfl, rfl⟩, (hI.less 0 rfl)⟩)
                  · replace hc := ne_of_beq_false hc
                    rw [if_neg hc] at h
                    have hc24 := hc
                    clear hc
                    refine WP.skip ?_
                    refine QP.blockN ?_
                    refine QP.next ?_
                    refine WP.pick [2] ?_
                    refine WP.seqR ?_
                    refine WL.pure 0 1 [2, 26] (L' := [(2, .pointer (some ⟨b1, 0, none⟩)), (26, .agg #[.int .i64 0, .int .i64 0, .int .i64 0, .int .i64 0, .int .i64 0])]) (by kernel_rfl) (by decide) ?_
                    refine WL.op (op := .store 83 (.tmp 2) (.tmp 26)) (ty := 0) (d := none) (g := none) (by kernel_rfl) (by kernel_rfl) (by kernel_rfl) (Does.store_box (i := 0) (b := b1) (o := 0) (v := .agg #[.int .i64 0, .int .i64 0, .int .i64 0, .int .i64 0, .int .i64 0]) (by rfl) sz83 (by kernel_rfl) (by kernel_rfl) (by kernel_rfl) (Free.zero _) (Nat.le_of_ble_eq_true rfl) (cells' := #[.int .i64 0, .int .i64 0, .int .i64 0, .int .i64 0, .int .i64 0]) (by kernel_rfl)) ?_
                    rintro _ _ _ ⟨rfl, rfl, rfl⟩
                    refine WL.restQ 2 [2, 3] (L' := [(2, .pointer (some ⟨b1, 0, none⟩)), (3, .bool false)]) (by kernel_rfl) ?_
                    refine WP.ret ?_
                    obtain rfl := Option.some.inj h
                    exact QP.returnedM (rs := [.cell 2 83, .tmp 3]) (by kernel_rfl) (ResAll.cons (Res1.box (p := 2) (i := 0) (o := 0) (agg := true) (by rfl) ag83 (by kernel_rfl) (fun h => by cases h) (Nat.le_of_ble_eq_true rfl) (v := .agg #[.int .i64 0, .int .i64 0, .int .i64 0, .int .i64 0, .int .i64 0]) (by kernel_rfl)) (ResAll.cons (Res1.tmp (t := 3) (v := .bool false) (by kernel_rfl)) ResAll.nil)) (by kernel_rfl) (fun W hI => ⟨_, _, _, rfl, ⟨rfl, rfl, rfl⟩, (hI.less 0 rfl)⟩)
                · replace hc := ne_of_beq_false hc
                  rw [if_neg hc] at h
                  have hc23 := hc
                  clear hc
                  refine WP.regionP [2, 22] (L' := [(2, .pointer (some ⟨b1, 0, none⟩)), (22, .bool (a0 == 8))]) (by kernel_rfl) ?_
                  refine QP.next ?_
                  refine WP.pick [2, 22] ?_
                  refine WP.cond (b := (a0 == 8)) (by kernel_rfl) (fun hc => ?_) (fun hc => ?_)
                  · replace hc := eq_of_beq hc
                    rw [if_pos hc] at h
                    have hc25 := hc
                    clear hc
                    refine WP.seqR ?_
                    refine WL.pure 0 1 [2, 25] (L' := [(2, .pointer (some ⟨b1, 0, none⟩)), (25, .agg #[.int .i64 0, .int .i64 0, .int .i64 2, .int .i64 1048576, .int .i64 0])]) (by kernel_rfl) (by decide) ?_
                    refine WL.op (op := .store 83 (.tmp 2) (.tmp 25)) (ty := 0) (d := none) (g := none) (by kernel_rfl) (by kernel_rfl) (by kernel_rfl) (Does.store_box (i := 0) (b := b1) (o := 0) (v := .agg #[.int .i64 0, .int .i64 0, .int .i64 2, .int .i64 1048576, .int .i64 0]) (by rfl) sz83 (by kernel_rfl) (by kernel_rfl) (by kernel_rfl) (Free.zero _) (Nat.le_of_ble_eq_true rfl) (cells' := #[.int .i64 0, .int .i64 0, .int .i64 2, .int .i64 1048576, .int .i64 0]) (by kernel_rfl)) ?_
                    rintro _ _ _ ⟨rfl, rfl, rfl⟩
                    refine WL.restQ 2 [2, 3] (L' := [(2, .pointer (some ⟨b1, 0, none⟩)), (3, .bool true)]) (by kernel_rfl) ?_
                    refine WP.ret ?_
                    refine QP.blockR ?_
                    refine QP.thenR ?_
                    obtain rfl := Option.some.inj h
                    exact QP.returnedM (rs := [.cell 2 83, .tmp 3]) (by kernel_rfl) (ResAll.cons (Res1.box (p := 2) (i := 0) (o := 0) (agg := true) (by rfl) ag83 (by kernel_rfl) (fun h => by cases h) (Nat.le_of_ble_eq_true rfl) (v := .agg #[.int .i64 0, .int .i64 0, .int .i64 2, .int .i64 1048576, .int .i64 0]) (by kernel_rfl)) (ResAll.cons (Res1.tmp (t := 3) (v := .bool true) (by kernel_rfl)) ResAll.nil)) (by kernel_rfl) (fun W hI => ⟨_, _, _, rfl, ⟨rfl, rfl, rfl⟩, (hI.less 0 rfl)⟩)
                  · replace hc := ne_of_beq_false hc
                    rw [if_neg hc] at h
                    have hc25 := hc
                    clear hc
                    refine WP.skip ?_
                    refine QP.blockN ?_
                    refine QP.next ?_
                    refine WP.pick [2] ?_
                    refine WP.seqR ?_
                    refine WL.pure 0 1 [2, 26] (L' := [(2, .pointer (some ⟨b1, 0, none⟩)), (26, .agg #[.int .i64 0, .int .i64 0, .int .i64 0, .int .i64 0, .int .i64 0])]) (by kernel_rfl) (by decide) ?_
                    refine WL.op (op := .store 83 (.tmp 2) (.tmp 26)) (ty := 0) (d := none) (g := none) (by kernel_rfl) (by kernel_rfl) (by kernel_rfl) (Does.store_box (i := 0) (b := b1) (o := 0) (v := .agg #[.int .i64 0, .int .i64 0, .int .i64 0, .int .i64 0, .int .i64 0]) (by rfl) sz83 (by kernel_rfl) (by kernel_rfl) (by kernel_rfl) (Free.zero _) (Nat.le_of_ble_eq_true rfl) (cells' := #[.int .i64 0, .int .i64 0, .int .i64 0, .int .i64 0, .int .i64 0]) (by kernel_rfl)) ?_
                    rintro _ _ _ ⟨rfl, rfl, rfl⟩
                    refine WL.restQ 2 [2, 3] (L' := [(2, .pointer (some ⟨b1, 0, none⟩)), (3, .bool false)]) (by kernel_rfl) ?_
                    refine WP.ret ?_
                    obtain rfl := Option.some.inj h
                    exact QP.returnedM (rs := [.cell 2 83, .tmp 3]) (by kernel_rfl) (ResAll.cons (Res1.box (p := 2) (i := 0) (o := 0) (agg := true) (by rfl) ag83 (by kernel_rfl) (fun h => by cases h) (Nat.le_of_ble_eq_true rfl) (v := .agg #[.int .i64 0, .int .i64 0, .int .i64 0, .int .i64 0, .int .i64 0]) (by kernel_rfl)) (ResAll.cons (Res1.tmp (t := 3) (v := .bool false) (by kernel_rfl)) ResAll.nil)) (by kernel_rfl) (fun W hI => ⟨_, _, _, rfl, ⟨rfl, rfl, rfl⟩, (hI.less 0 rfl)⟩)
          · replace hc := ne_of_beq_false hc
            rw [if_neg hc] at h
            have hc20 := hc
            clear hc
            refine WP.regionP [2, 4, 15] (L' := [(2, .pointer (some ⟨b1, 0, none⟩)), (4, .int .i64 a0), (15, .bool (a0 == 6))]) (by kernel_rfl) ?_
            refine QP.next ?_
            refine WP.pick [2, 4, 15] ?_
            refine WP.cond (b := (a0 == 6)) (by kernel_rfl) (fun hc => ?_) (fun hc => ?_)
            · replace hc := eq_of_beq hc
              rw [if_pos hc] at h
              have hc26 := hc
              clear hc
              refine WP.seqR ?_
              refine WL.pure 0 1 [2, 18] (L' := [(2, .pointer (some ⟨b1, 0, none⟩)), (18, .agg #[.int .i64 0, .int .i64 0, .int .i64 0, .int .i64 0, .int .i64 1099511627776])]) (by kernel_rfl) (by decide) ?_
              refine WL.op (op := .store 83 (.tmp 2) (.tmp 18)) (ty := 0) (d := none) (g := none) (by kernel_rfl) (by kernel_rfl) (by kernel_rfl) (Does.store_box (i := 0) (b := b1) (o := 0) (v := .agg #[.int .i64 0, .int .i64 0, .int .i64 0, .int .i64 0, .int .i64 1099511627776]) (by rfl) sz83 (by kernel_rfl) (by kernel_rfl) (by kernel_rfl) (Free.zero _) (Nat.le_of_ble_eq_true rfl) (cells' := #[.int .i64 0, .int .i64 0, .int .i64 0, .int .i64 0, .int .i64 1099511627776]) (by kernel_rfl)) ?_
              rintro _ _ _ ⟨rfl, rfl, rfl⟩
              refine WL.restQ 2 [2, 3] (L' := [(2, .pointer (some ⟨b1, 0, none⟩)), (3, .bool true)]) (by kernel_rfl) ?_
              refine WP.ret ?_
              refine QP.blockR ?_
              refine QP.thenR ?_
              obtain rfl := Option.some.inj h
              exact QP.returnedM (rs := [.cell 2 83, .tmp 3]) (by kernel_rfl) (ResAll.cons (Res1.box (p := 2) (i := 0) (o := 0) (agg := true) (by rfl) ag83 (by kernel_rfl) (fun h => by cases h) (Nat.le_of_ble_eq_true rfl) (v := .agg #[.int .i64 0, .int .i64 0, .int .i64 0, .int .i64 0, .int .i64 1099511627776]) (by kernel_rfl)) (ResAll.cons (Res1.tmp (t := 3) (v := .bool true) (by kernel_rfl)) ResAll.nil)) (by kernel_rfl) (fun W hI => ⟨_, _, _, rfl, ⟨rfl, rfl, rfl⟩, (hI.less 0 rfl)⟩)
            · replace hc := ne_of_beq_false hc
              rw [if_neg hc] at h
              have hc26 := hc
              clear hc
              refine WP.seqP [2, 4, 19] (L' := [(2, .pointer (some ⟨b1, 0, none⟩)), (4, .int .i64 a0), (19, .bool (a0 == 9))]) (by kernel_rfl) ?_
              refine WP.cond (b := (a0 == 9)) (by kernel_rfl) (fun hc => ?_) (fun hc => ?_)
              · replace hc := eq_of_beq hc
                rw [if_pos hc] at h
                have hc27 := hc
                clear hc
                refine WP.seqR ?_
                refine WL.pure 0 1 [2, 21] (L' := [(2, .pointer (some ⟨b1, 0, none⟩)), (21, .agg #[.int .i64 0, .int .i64 0, .int .i64 1, .int .i64 1, .int .i64 0])]) (by kernel_rfl) (by decide) ?_
                refine WL.op (op := .store 83 (.tmp 2) (.tmp 21)) (ty := 0) (d := none) (g := none) (by kernel_rfl) (by kernel_rfl) (by kernel_rfl) (Does.store_box (i := 0) (b := b1) (o := 0) (v := .agg #[.int .i64 0, .int .i64 0, .int .i64 1, .int .i64 1, .int .i64 0]) (by rfl) sz83 (by kernel_rfl) (by kernel_rfl) (by kernel_rfl) (Free.zero _) (Nat.le_of_ble_eq_true rfl) (cells' := #[.int .i64 0, .int .i64 0, .int .i64 1, .int .i64 1, .int .i64 0]) (by kernel_rfl)) ?_
                rintro _ _ _ ⟨rfl, rfl, rfl⟩
                refine WL.restQ 2 [2, 3] (L' := [(2, .pointer (some ⟨b1, 0, none⟩)), (3, .bool true)]) (by kernel_rfl) ?_
                refine WP.ret ?_
                refine QP.blockR ?_
                refine QP.thenR ?_
                obtain rfl := Option.some.inj h
                exact QP.returnedM (rs := [.cell 2 83, .tmp 3]) (by kernel_rfl) (ResAll.cons (Res1.box (p := 2) (i := 0) (o := 0) (agg := true) (by rfl) ag83 (by kernel_rfl) (fun h => by cases h) (Nat.le_of_ble_eq_true rfl) (v := .agg #[.int .i64 0, .int .i64 0, .int .i64 1, .int .i64 1, .int .i64 0]) (by kernel_rfl)) (ResAll.cons (Res1.tmp (t := 3) (v := .bool true) (by kernel_rfl)) ResAll.nil)) (by kernel_rfl) (fun W hI => ⟨_, _, _, rfl, ⟨rfl, rfl, rfl⟩, (hI.less 0 rfl)⟩)
              · replace hc := ne_of_beq_false hc
                rw [if_neg hc] at h
                have hc27 := hc
                clear hc
                refine WP.seq ?_
                refine WP.seqP [2, 4, 22] (L' := [(2, .pointer (some ⟨b1, 0, none⟩)), (4, .int .i64 a0), (22, .bool (a0 == 7))]) (by kernel_rfl) ?_
                refine WP.cond (b := (a0 == 7)) (by kernel_rfl) (fun hc => ?_) (fun hc => ?_)
                · replace hc := eq_of_beq hc
                  rw [if_pos hc] at h
                  have hc28 := hc
                  clear hc
                  refine WP.skip ?_
                  refine QP.next ?_
                  refine WP.pick [2, 22] ?_
                  refine WP.cond (b := (a0 == 7)) (by kernel_rfl) (fun hc => ?_) (fun hc => ?_)
                  · replace hc := eq_of_beq hc
                    rw [if_pos hc] at h
                    have hc29 := hc
                    clear hc
                    refine WP.seqR ?_
                    refine WL.pure 0 1 [2, 25] (L' := [(2, .pointer (some ⟨b1, 0, none⟩)), (25, .agg #[.int .i64 0, .int .i64 0, .int .i64 2, .int .i64 1048576, .int .i64 0])]) (by kernel_rfl) (by decide) ?_
                    refine WL.op (op := .store 83 (.tmp 2) (.tmp 25)) (ty := 0) (d := none) (g := none) (by kernel_rfl) (by kernel_rfl) (by kernel_rfl) (Does.store_box (i := 0) (b := b1) (o := 0) (v := .agg #[.int .i64 0, .int .i64 0, .int .i64 2, .int .i64 1048576, .int .i64 0]) (by rfl) sz83 (by kernel_rfl) (by kernel_rfl) (by kernel_rfl) (Free.zero _) (Nat.le_of_ble_eq_true rfl) (cells' := #[.int .i64 0, .int .i64 0, .int .i64 2, .int .i64 1048576, .int .i64 0]) (by kernel_rfl)) ?_
                    rintro _ _ _ ⟨rfl, rfl, rfl⟩
                    refine WL.restQ 2 [2, 3] (L' := [(2, .pointer (some ⟨b1, 0, none⟩)), (3, .bool true)]) (by kernel_rfl) ?_
                    refine WP.ret ?_
                    refine QP.blockR ?_
                    refine QP.thenR ?_
                    obtain rfl := Option.some.inj h
                    exact QP.returnedM (rs := [.cell 2 83, .tmp 3]) (by kernel_rfl) (ResAll.cons (Res1.box (p := 2) (i := 0) (o := 0) (agg := true) (by rfl) ag83 (by kernel_rfl) (fun h => by cases h) (Nat.le_of_ble_eq_true rfl) (v := .agg #[.int .i64 0, .int .i64 0, .int .i64 2, .int .i64 1048576, .int .i64 0]) (by kernel_rfl)) (ResAll.cons (Res1.tmp (t := 3) (v := .bool true) (by kernel_rfl)) ResAll.nil)) (by kernel_rfl) (fun W hI => ⟨_, _, _, rfl, ⟨rfl, rfl, rfl⟩, (hI.less 0 rfl)⟩)
                  · replace hc := ne_of_beq_false hc
                    rw [if_neg hc] at h
                    have hc29 := hc
                    clear hc
                    refine WP.skip ?_
                    refine QP.blockN ?_
                    refine QP.next ?_
                    refine WP.pick [2] ?_
                    refine WP.seqR ?_
                    refine WL.pure 0 1 [2, 26] (L' := [(2, .pointer (some ⟨b1, 0, none⟩)), (26, .agg #[.int .i64 0, .int .i64 0, .int .i64 0, .int .i64 0, .int .i64 0])]) (by kernel_rfl) (by decide) ?_
                    refine WL.op (op := .store 83 (.tmp 2) (.tmp 26)) (ty := 0) (d := none) (g := none) (by kernel_rfl) (by kernel_rfl) (by kernel_rfl) (Does.store_box (i := 0) (b := b1) (o := 0) (v := .agg #[.int .i64 0, .int .i64 0, .int .i64 0, .int .i64 0, .int .i64 0]) (by rfl) sz83 (by kernel_rfl) (by kernel_rfl) (by kernel_rfl) (Free.zero _) (Nat.le_of_ble_eq_true rfl) (cells' := #[.int .i64 0, .int .i64 0, .int .i64 0, .int .i64 0, .int .i64 0]) (by kernel_rfl)) ?_
                    rintro _ _ _ ⟨rfl, rfl, rfl⟩
                    refine WL.restQ 2 [2, 3] (L' := [(2, .pointer (some ⟨b1, 0, none⟩)), (3, .bool false)]) (by kernel_rfl) ?_
                    refine WP.ret ?_
                    obtain rfl := Option.some.inj h
                    exact QP.returnedM (rs := [.cell 2 83, .tmp 3]) (by kernel_rfl) (ResAll.cons (Res1.box (p := 2) (i := 0) (o := 0) (agg := true) (by rfl) ag83 (by kernel_rfl) (fun h => by cases h) (Nat.le_of_ble_eq_true rfl) (v := .agg #[.int .i64 0, .int .i64 0, .int .i64 0, .int .i64 0, .int .i64 0]) (by kernel_rfl)) (ResAll.cons (Res1.tmp (t := 3) (v := .bool false) (by kernel_rfl)) ResAll.nil)) (by kernel_rfl) (fun W hI => ⟨_, _, _, rfl, ⟨rfl, rfl, rfl⟩, (hI.less 0 rfl)⟩)
                · replace hc := ne_of_beq_false hc
                  rw [if_neg hc] at h
                  have hc28 := hc
                  clear hc
                  refine WP.regionP [2, 22] (L' := [(2, .pointer (some ⟨b1, 0, none⟩)), (22, .bool (a0 == 8))]) (by kernel_rfl) ?_
                  refine QP.next ?_
                  refine WP.pick [2, 22] ?_
                  refine WP.cond (b := (a0 == 8)) (by kernel_rfl) (fun hc => ?_) (fun hc => ?_)
                  · replace hc := eq_of_beq hc
                    rw [if_pos hc] at h
                    have hc30 := hc
                    clear hc
                    refine WP.seqR ?_
                    refine WL.pure 0 1 [2, 25] (L' := [(2, .pointer (some ⟨b1, 0, none⟩)), (25, .agg #[.int .i64 0, .int .i64 0, .int .i64 2, .int .i64 1048576, .int .i64 0])]) (by kernel_rfl) (by decide) ?_
                    refine WL.op (op := .store 83 (.tmp 2) (.tmp 25)) (ty := 0) (d := none) (g := none) (by kernel_rfl) (by kernel_rfl) (by kernel_rfl) (Does.store_box (i := 0) (b := b1) (o := 0) (v := .agg #[.int .i64 0, .int .i64 0, .int .i64 2, .int .i64 1048576, .int .i64 0]) (by rfl) sz83 (by kernel_rfl) (by kernel_rfl) (by kernel_rfl) (Free.zero _) (Nat.le_of_ble_eq_true rfl) (cells' := #[.int .i64 0, .int .i64 0, .int .i64 2, .int .i64 1048576, .int .i64 0]) (by kernel_rfl)) ?_
                    rintro _ _ _ ⟨rfl, rfl, rfl⟩
                    refine WL.restQ 2 [2, 3] (L' := [(2, .pointer (some ⟨b1, 0, none⟩)), (3, .bool true)]) (by kernel_rfl) ?_
                    refine WP.ret ?_
                    refine QP.blockR ?_
                    refine QP.thenR ?_
                    obtain rfl := Option.some.inj h
                    exact QP.returnedM (rs := [.cell 2 83, .tmp 3]) (by kernel_rfl) (ResAll.cons (Res1.box (p := 2) (i := 0) (o := 0) (agg := true) (by rfl) ag83 (by kernel_rfl) (fun h => by cases h) (Nat.le_of_ble_eq_true rfl) (v := .agg #[.int .i64 0, .int .i64 0, .int .i64 2, .int .i64 1048576, .int .i64 0]) (by kernel_rfl)) (ResAll.cons (Res1.tmp (t := 3) (v := .bool true) (by kernel_rfl)) ResAll.nil)) (by kernel_rfl) (fun W hI => ⟨_, _, _, rfl, ⟨rfl, rfl, rfl⟩, (hI.less 0 rfl)⟩)
                  · replace hc := ne_of_beq_false hc
                    rw [if_neg hc] at h
                    have hc30 := hc
                    clear hc
                    refine WP.skip ?_
                    refine QP.blockN ?_
                    refine QP.next ?_
                    refine WP.pick [2] ?_
                    refine WP.seqR ?_
                    refine WL.pure 0 1 [2, 26] (L' := [(2, .pointer (some ⟨b1, 0, none⟩)), (26, .agg #[.int .i64 0, .int .i64 0, .int .i64 0, .int .i64 0, .int .i64 0])]) (by kernel_rfl) (by decide) ?_
                    refine WL.op (op := .store 83 (.tmp 2) (.tmp 26)) (ty := 0) (d := none) (g := none) (by kernel_rfl) (by kernel_rfl) (by kernel_rfl) (Does.store_box (i := 0) (b := b1) (o := 0) (v := .agg #[.int .i64 0, .int .i64 0, .int .i64 0, .int .i64 0, .int .i64 0]) (by rfl) sz83 (by kernel_rfl) (by kernel_rfl) (by kernel_rfl) (Free.zero _) (Nat.le_of_ble_eq_true rfl) (cells' := #[.int .i64 0, .int .i64 0, .int .i64 0, .int .i64 0, .int .i64 0]) (by kernel_rfl)) ?_
                    rintro _ _ _ ⟨rfl, rfl, rfl⟩
                    refine WL.restQ 2 [2, 3] (L' := [(2, .pointer (some ⟨b1, 0, none⟩)), (3, .bool false)]) (by kernel_rfl) ?_
                    refine WP.ret ?_
                    obtain rfl := Option.some.inj h
                    exact QP.returnedM (rs := [.cell 2 83, .tmp 3]) (by kernel_rfl) (ResAll.cons (Res1.box (p := 2) (i := 0) (o := 0) (agg := true) (by rfl) ag83 (by kernel_rfl) (fun h => by cases h) (Nat.le_of_ble_eq_true rfl) (v := .agg #[.int .i64 0, .int .i64 0, .int .i64 0, .int .i64 0, .int .i64 0]) (by kernel_rfl)) (ResAll.cons (Res1.tmp (t := 3) (v := .bool false) (by kernel_rfl)) ResAll.nil)) (by kernel_rfl) (fun W hI => ⟨_, _, _, rfl, ⟨rfl, rfl, rfl⟩, (hI.less 0 rfl)⟩)

/-! ### unicode/utf8.ValidString: function 65 -/
def utf8_ValidString (a0 : ByteArray) : Option Bool := (if a0.size ≤ 9223372036854775807 then some (Lib.validD a0.data.toList) else none)
set_option maxHeartbeats 4000000 in
theorem utf8_ValidString_calls {B : World} {G : GMap} {Γ : List Chunk} {W : World} (HT : Tabs B G) (a0 : ByteArray) (r : Bool) (h : utf8_ValidString a0 = some r) (hI : Inv B G (Γ) W) :
    Calls Tryd.prog 65 [.string a0].toArray W (Ret B (fun v G' Γ' => v = .bool r ∧ G = G' ∧ Γ = Γ')) := by
  unfold utf8_ValidString at h
  by_cases hs : a0.size ≤ 9223372036854775807
  case neg => rw [if_neg hs] at h; cases h
  rw [if_pos hs] at h
  obtain rfl := Option.some.inj h
  exact Calls.kept (Any.utf8_ValidString Tryd.laysValid a0 W hs (HT.u8 hI)) hI

/-! ### unicode.IsLetter: function 80 -/
def unicode_IsLetter (a0 : Int) : Option Bool := (if -2147483648 ≤ a0 ∧ a0 ≤ 2147483647 then some (Lib.isLetterU a0) else none)
set_option maxHeartbeats 4000000 in
theorem unicode_IsLetter_calls {B : World} {G : GMap} {Γ : List Chunk} {W : World} (HT : Tabs B G) (a0 : Int) (r : Bool) (h : unicode_IsLetter a0 = some r) (hI : Inv B G (Γ) W) :
    Calls Tryd.prog 80 [.int .i32 a0].toArray W (Ret B (fun v G' Γ' => v = .bool r ∧ G = G' ∧ Γ = Γ')) := by
  unfold unicode_IsLetter at h
  by_cases hs : -2147483648 ≤ a0 ∧ a0 ≤ 2147483647
  case neg => rw [if_neg hs] at h; cases h
  rw [if_pos hs] at h
  obtain rfl := Option.some.inj h
  exact Calls.kept (Tryd.unicode_IsLetter_all a0 W hs.1 hs.2 (HT.pr hI) (HT.le hI)) hI

/-! ### unicode.IsDigit: function 81 -/
def unicode_IsDigit (a0 : Int) : Option Bool := (if -2147483648 ≤ a0 ∧ a0 ≤ 2147483647 then some (Lib.isDigitU a0) else none)
set_option maxHeartbeats 4000000 in
theorem unicode_IsDigit_calls {B : World} {G : GMap} {Γ : List Chunk} {W : World} (HT : Tabs B G) (a0 : Int) (r : Bool) (h : unicode_IsDigit a0 = some r) (hI : Inv B G (Γ) W) :
    Calls Tryd.prog 81 [.int .i32 a0].toArray W (Ret B (fun v G' Γ' => v = .bool r ∧ G = G' ∧ Γ = Γ')) := by
  unfold unicode_IsDigit at h
  by_cases hs : -2147483648 ≤ a0 ∧ a0 ≤ 2147483647
  case neg => rw [if_neg hs] at h; cases h
  rw [if_pos hs] at h
  obtain rfl := Option.some.inj h
  exact Calls.kept (Tryd.unicode_IsDigit_all a0 W hs.1 hs.2 (HT.di hI)) hI

/-! ### grapevine/tokens.letter: function 66 -/
def tokens_letter (a0 : Int) : Option Bool := (((unicode_IsLetter a0).bind fun t3 => (if t3 = true then some true else ((unicode_IsDigit a0).bind fun t8 => some t8))).bind fun s1 => some s1)
set_option maxHeartbeats 4000000 in
theorem tokens_letter_calls {B : World} {G : GMap} {Γ : List Chunk} {W : World} (HT : Tabs B G) (a0 : Int) (r : Bool) (h : tokens_letter a0 = some r) (hI : Inv B G (Γ) W) :
    Calls Tryd.prog 66 [.int .i32 a0].toArray W (Ret B (fun v G' Γ' => v = .bool r ∧ G = G' ∧ Γ = Γ')) := by
  refine calls_WP (Γ := Γ) (G := G) (B := B) Tryd.func66 rfl (by kernel_rfl) ?_ hI
  clear hI
  unfold tokens_letter at h
  refine WP.seqP [0] (L' := [(0, .int .i32 a0)]) (by kernel_rfl) ?_
  rw [Option.bind_eq_some_iff] at h
  obtain ⟨os1, h, hk2⟩ := h
  refine WP.cut (fun L' G' Γ' => ∃ s1 : Bool, s1 = os1 ∧ L' = [(2, .bool s1)] ∧ G = G' ∧ Γ = Γ') ?_ ?_
  · clear hk2
    refine WP.region ?_
    refine WL.pure 0 1 [0, 3] (L' := [(0, .int .i32 a0), (3, .int .i32 a0)]) (by kernel_rfl) (by decide) ?_
    rw [Option.bind_eq_some_iff] at h
    obtain ⟨t3, ht4, h⟩ := h
    refine WL.op (op := .call { callee := (.value (.func 80)), args := #[(.tmp 3)], argTypes := #[21] }) (ty := 4) (d := some 4) (g := none) (by kernel_rfl) (by kernel_rfl) (by kernel_rfl) (Does.call (f := 80) (args := [.int .i32 a0]) (by kernel_rfl) (fun W hI => (unicode_IsLetter_calls HT a0  t3 ht4 hI))) ?_
    rintro _ _ _ ⟨rfl, rfl, rfl⟩
    refine WL.pure 2 3 [0, 5] (L' := [(0, .int .i32 a0), (5, .bool t3)]) (by kernel_rfl) (by decide) ?_
    refine WL.split 5 (b := t3) (by kernel_rfl) (fun hc => ?_) (fun hc => ?_)
    · replace hc := hc
      rw [if_pos hc] at h
      have hc7 := hc
      clear hc
      refine WL.rest 3 [2] (L' := [(2, .bool true)]) (by kernel_rfl) ?_
      refine QP.pick [2] ?_
      exact QP.meet ⟨_, Option.some.inj h, rfl, rfl, rfl⟩
    · replace hc := (Bool.eq_false_iff.1 hc)
      rw [if_neg hc] at h
      have hc7 := hc
      clear hc
      refine WL.pure 3 4 [5, 6] (L' := [(5, .bool false), (6, .int .i32 a0)]) (by kernel_rfl) (by decide) ?_
      rw [Option.bind_eq_some_iff] at h
      obtain ⟨t8, ht9, h⟩ := h
      refine WL.op (op := .call { callee := (.value (.func 81)), args := #[(.tmp 6)], argTypes := #[21] }) (ty := 4) (d := some 7) (g := some (2, false)) (by kernel_rfl) (by kernel_rfl) (by kernel_rfl) (Does.call (f := 81) (args := [.int .i32 a0]) (by kernel_rfl) (fun W hI => (unicode_IsDigit_calls HT a0  t8 ht9 hI))) ?_
      rintro _ _ _ ⟨rfl, rfl, rfl⟩
      refine WL.rest 5 [2] (L' := [(2, .bool t8)]) (by kernel_rfl) ?_
      refine QP.pick [2] ?_
      exact QP.meet ⟨_, Option.some.inj h, rfl, rfl, rfl⟩
  · rintro _ _ _ ⟨s1, rfl, rfl, rfl, rfl⟩
    clear h
    replace h := hk2
    refine WP.ret ?_
    obtain rfl := Option.some.inj h
    exact QP.returned [2] [.bool s1] _ (by kernel_rfl) (by kernel_rfl) (by kernel_rfl) (fun W hI => ⟨_, _, _, rfl, ⟨rfl, rfl, rfl⟩, hI⟩)

/-! ### grapevine/tokens.other: function 38 -/
def tokens_other (a0 : Int) : Option Bool := ((tokens_letter a0).bind fun t1 => some (!t1))
set_option maxHeartbeats 4000000 in
theorem tokens_other_calls {B : World} {G : GMap} {Γ : List Chunk} {W : World} (HT : Tabs B G) (a0 : Int) (r : Bool) (h : tokens_other a0 = some r) (hI : Inv B G (Γ) W) :
    Calls Tryd.prog 38 [.int .i32 a0].toArray W (Ret B (fun v G' Γ' => v = .bool r ∧ G = G' ∧ Γ = Γ')) := by
  refine calls_WP (Γ := Γ) (G := G) (B := B) Tryd.func38 rfl (by kernel_rfl) ?_ hI
  clear hI
  unfold tokens_other at h
  refine WP.seqP [0] (L' := [(0, .int .i32 a0)]) (by kernel_rfl) ?_
  refine WP.seqR ?_
  refine WL.pure 0 1 [3] (L' := [(3, .int .i32 a0)]) (by kernel_rfl) (by decide) ?_
  rw [Option.bind_eq_some_iff] at h
  obtain ⟨t1, ht2, h⟩ := h
  refine WL.op (op := .call { callee := (.value (.func 66)), args := #[(.tmp 3)], argTypes := #[21] }) (ty := 4) (d := some 4) (g := none) (by kernel_rfl) (by kernel_rfl) (by kernel_rfl) (Does.call (f := 66) (args := [.int .i32 a0]) (by kernel_rfl) (fun W hI => (tokens_letter_calls HT a0  t1 ht2 hI))) ?_
  rintro _ _ _ ⟨rfl, rfl, rfl⟩
  refine WL.restQ 2 [2] (L' := [(2, .bool (!t1))]) (by kernel_rfl) ?_
  refine WP.ret ?_
  obtain rfl := Option.some.inj h
  exact QP.returned [2] [.bool (!t1)] _ (by kernel_rfl) (by kernel_rfl) (by kernel_rfl) (fun W hI => ⟨_, _, _, rfl, ⟨rfl, rfl, rfl⟩, hI⟩)

/-! ### strings.ContainsFunc: function 97 -/
def strings_ContainsFunc (a0 : ByteArray) : Option Bool := (if RunesOk tokens_other then some (decide (0 ≤ Lib.idxFunc (fun x => (tokens_other (x : Int)).getD false) true a0)) else none)
set_option maxHeartbeats 4000000 in
theorem strings_ContainsFunc_calls {B : World} {G : GMap} {Γ : List Chunk} {W : World} (HT : Tabs B G) (a0 : ByteArray) (r : Bool) (h : strings_ContainsFunc a0 = some r) (hI : Inv B G (Γ) W) :
    Calls Tryd.prog 97 [.string a0, .func (.func 38) #[] #[]].toArray W (Ret B (fun v G' Γ' => v = .bool r ∧ G = G' ∧ Γ = Γ')) := by
  unfold strings_ContainsFunc at h
  by_cases hs : RunesOk tokens_other
  case neg => rw [if_neg hs] at h; cases h
  rw [if_pos hs] at h
  obtain rfl := Option.some.inj h
  refine Calls.kept (Tryd.strings_ContainsFunc_grows 38 #[] (enters_of Tryd.func38 (by kernel_rfl) rfl) (fun x => (tokens_other (x : Int)).getD false) a0 W (predGrows tokens_other hs fun W' hb x b hx => ?_)) hI
  exact (tokens_other_calls (Tabs.start (Tab.below (HT.all hI) hb)) (x : Int) b hx (Inv.start W')).mono fun e w' hr => by obtain ⟨_, _, _, rfl, ⟨rfl, rfl, rfl⟩, hI'⟩ := hr; exact ⟨rfl, hI'.below⟩

/-! ### grapevine/tokens.One: function 83 -/
def tokens_One (a0 : ByteArray) : Option Bool := ((if (!(a0.toList == (⟨#[]⟩ : ByteArray).toList)) = true then ((utf8_ValidString a0).bind fun t4 => (if t4 = true then ((strings_ContainsFunc a0).bind fun t9 => some (!t9)) else some false)) else some false).bind fun s1 => some s1)
set_option maxHeartbeats 4000000 in
theorem tokens_One_calls {B : World} {G : GMap} {Γ : List Chunk} {W : World} (HT : Tabs B G) (a0 : ByteArray) (r : Bool) (h : tokens_One a0 = some r) (hI : Inv B G (Γ) W) :
    Calls Tryd.prog 83 [.string a0].toArray W (Ret B (fun v G' Γ' => v = .bool r ∧ G = G' ∧ Γ = Γ')) := by
  refine calls_WP (Γ := Γ) (G := G) (B := B) Tryd.func83 rfl (by kernel_rfl) ?_ hI
  clear hI
  unfold tokens_One at h
  refine WP.seqP [0] (L' := [(0, .string a0)]) (by kernel_rfl) ?_
  rw [Option.bind_eq_some_iff] at h
  obtain ⟨os1, h, hk2⟩ := h
  refine WP.cut (fun L' G' Γ' => ∃ s1 : Bool, s1 = os1 ∧ L' = [(2, .bool s1)] ∧ G = G' ∧ Γ = Γ') ?_ ?_
  · clear hk2
    refine WP.region ?_
    refine WL.pure 0 3 [0, 5] (L' := [(0, .string a0), (5, .bool (!(a0.toList == (⟨#[]⟩ : ByteArray).toList)))]) (by kernel_rfl) (by decide) ?_
    refine WL.split 5 (b := (!(a0.toList == (⟨#[]⟩ : ByteArray).toList))) (by kernel_rfl) (fun hc => ?_) (fun hc => ?_)
    · replace hc := hc
      rw [if_pos hc] at h
      have hc3 := hc
      clear hc
      refine WL.pure 3 4 [0, 5, 6] (L' := [(0, .string a0), (5, .bool true), (6, .string a0)]) (by kernel_rfl) (by decide) ?_
      rw [Option.bind_eq_some_iff] at h
      obtain ⟨t4, ht5, h⟩ := h
      refine WL.op (op := .call { callee := (.value (.func 65)), args := #[(.tmp 6)], argTypes := #[9] }) (ty := 4) (d := some 7) (g := some (2, true)) (by kernel_rfl) (by kernel_rfl) (by kernel_rfl) (Does.call (f := 65) (args := [.string a0]) (by kernel_rfl) (fun W hI => (utf8_ValidString_calls HT a0  t4 ht5 hI))) ?_
      rintro _ _ _ ⟨rfl, rfl, rfl⟩
      refine WL.pure 5 7 [0, 9] (L' := [(0, .string a0), (9, .bool t4)]) (by kernel_rfl) (by decide) ?_
      refine WL.split 9 (b := t4) (by kernel_rfl) (fun hc => ?_) (fun hc => ?_)
      · replace hc := hc
        rw [if_pos hc] at h
        have hc8 := hc
        clear hc
        refine WL.pure 7 8 [9, 10] (L' := [(9, .bool true), (10, .string a0)]) (by kernel_rfl) (by decide) ?_
        rw [Option.bind_eq_some_iff] at h
        obtain ⟨t9, ht10, h⟩ := h
        refine WL.op (op := .call { callee := (.value (.func 97)), args := #[(.tmp 10), (.func 38)], argTypes := #[9, 65] }) (ty := 4) (d := some 11) (g := some (6, true)) (by kernel_rfl) (by kernel_rfl) (by kernel_rfl) (Does.call (f := 97) (args := [.string a0, .func (.func 38) #[] #[]]) (by kernel_rfl) (fun W hI => (strings_ContainsFunc_calls HT a0  t9 ht10 hI))) ?_
        rintro _ _ _ ⟨rfl, rfl, rfl⟩
        refine WL.rest 9 [2] (L' := [(2, .bool (!t9))]) (by kernel_rfl) ?_
        refine QP.pick [2] ?_
        exact QP.meet ⟨_, Option.some.inj h, rfl, rfl, rfl⟩
      · replace hc := (Bool.eq_false_iff.1 hc)
        rw [if_neg hc] at h
        have hc8 := hc
        clear hc
        refine WL.rest 7 [2] (L' := [(2, .bool false)]) (by kernel_rfl) ?_
        refine QP.pick [2] ?_
        exact QP.meet ⟨_, Option.some.inj h, rfl, rfl, rfl⟩
    · replace hc := (Bool.eq_false_iff.1 hc)
      rw [if_neg hc] at h
      have hc3 := hc
      clear hc
      refine WL.rest 3 [2] (L' := [(2, .bool false)]) (by kernel_rfl) ?_
      refine QP.pick [2] ?_
      exact QP.meet ⟨_, Option.some.inj h, rfl, rfl, rfl⟩
  · rintro _ _ _ ⟨s1, rfl, rfl, rfl, rfl⟩
    clear h
    replace h := hk2
    refine WP.ret ?_
    obtain rfl := Option.some.inj h
    exact QP.returned [2] [.bool s1] _ (by kernel_rfl) (by kernel_rfl) (by kernel_rfl) (fun W hI => ⟨_, _, _, rfl, ⟨rfl, rfl, rfl⟩, hI⟩)

/-! ### grapevine/tokens.Norm: function 39 -/
def tokens_Norm (a0 : ByteArray) : Option ByteArray := (if a0.size ≤ 35184372088832 then some (normD a0) else none)
set_option maxHeartbeats 4000000 in
theorem tokens_Norm_calls {B : World} {G : GMap} {Γ : List Chunk} {W : World} (HT : Tabs B G) (a0 : ByteArray) (r : ByteArray) (h : tokens_Norm a0 = some r) (hI : Inv B G (Γ) W) :
    Calls Tryd.prog 39 [.string a0].toArray W (Ret B (fun v G' Γ' => v = .string r ∧ G = G' ∧ Γ = Γ')) := by
  unfold tokens_Norm at h
  by_cases hs : a0.size ≤ 35184372088832
  case neg => rw [if_neg hs] at h; cases h
  rw [if_pos hs] at h
  obtain rfl := Option.some.inj h
  exact Calls.kept (Tryd.norm_walk a0 W hs (HT.u8 hI) (HT.ca hI)) hI

/-! ### grapevine/ask.odd: function 62 -/
def ask_odd (a0 : ByteArray) : Option Bool := ((if (a0.size : Int) > 40 then some true else ((tokens_One a0).bind fun t4 => (if (!t4) = true then some true else ((tokens_Norm a0).bind fun t9 => some (!(t9.toList == a0.toList)))))).bind fun s1 => some s1)
set_option maxHeartbeats 4000000 in
theorem ask_odd_calls {B : World} {G : GMap} {Γ : List Chunk} {W : World} (HT : Tabs B G) (a0 : ByteArray) (r : Bool) (h : ask_odd a0 = some r) (hI : Inv B G (Γ) W) :
    Calls Tryd.prog 62 [.string a0].toArray W (Ret B (fun v G' Γ' => v = .bool r ∧ G = G' ∧ Γ = Γ')) := by
  refine calls_WP (Γ := Γ) (G := G) (B := B) Tryd.func62 rfl (by kernel_rfl) ?_ hI
  clear hI
  unfold ask_odd at h
  refine WP.seqP [0] (L' := [(0, .string a0)]) (by kernel_rfl) ?_
  rw [Option.bind_eq_some_iff] at h
  obtain ⟨os1, h, hk2⟩ := h
  refine WP.cut (fun L' G' Γ' => ∃ s1 : Bool, s1 = os1 ∧ L' = [(2, .bool s1)] ∧ G = G' ∧ Γ = Γ') ?_ ?_
  · clear hk2
    refine WP.region ?_
    refine WL.pure 0 4 [0, 6] (L' := [(0, .string a0), (6, .bool (decide ((a0.size : Int) > 40)))]) (by kernel_rfl) (by decide) ?_
    refine WL.split 6 (b := decide ((a0.size : Int) > 40)) (by kernel_rfl) (fun hc => ?_) (fun hc => ?_)
    · replace hc := of_decide_eq_true hc
      rw [if_pos hc] at h
      have hc3 := hc
      clear hc
      refine WL.rest 4 [2] (L' := [(2, .bool true)]) (by kernel_rfl) ?_
      refine QP.pick [2] ?_
      exact QP.meet ⟨_, Option.some.inj h, rfl, rfl, rfl⟩
    · replace hc := of_decide_eq_false hc
      rw [if_neg hc] at h
      have hc3 := hc
      clear hc
      refine WL.pure 4 5 [0, 6, 7] (L' := [(0, .string a0), (6, .bool false), (7, .string a0)]) (by kernel_rfl) (by decide) ?_
      rw [Option.bind_eq_some_iff] at h
      obtain ⟨t4, ht5, h⟩ := h
      refine WL.op (op := .call { callee := (.value (.func 83)), args := #[(.tmp 7)], argTypes := #[9] }) (ty := 4) (d := some 8) (g := some (3, false)) (by kernel_rfl) (by kernel_rfl) (by kernel_rfl) (Does.call (f := 83) (args := [.string a0]) (by kernel_rfl) (fun W hI => (tokens_One_calls HT a0  t4 ht5 hI))) ?_
      rintro _ _ _ ⟨rfl, rfl, rfl⟩
      refine WL.pure 6 9 [0, 11] (L' := [(0, .string a0), (11, .bool (!t4))]) (by kernel_rfl) (by decide) ?_
      refine WL.split 11 (b := (!t4)) (by kernel_rfl) (fun hc => ?_) (fun hc => ?_)
      · replace hc := hc
        rw [if_pos hc] at h
        have hc8 := hc
        clear hc
        refine WL.rest 9 [2] (L' := [(2, .bool true)]) (by kernel_rfl) ?_
        refine QP.pick [2] ?_
        exact QP.meet ⟨_, Option.some.inj h, rfl, rfl, rfl⟩
      · replace hc := (Bool.eq_false_iff.1 hc)
        rw [if_neg hc] at h
        have hc8 := hc
        clear hc
        refine WL.pure 9 10 [0, 11, 12] (L' := [(0, .string a0), (11, .bool false), (12, .string a0)]) (by kernel_rfl) (by decide) ?_
        rw [Option.bind_eq_some_iff] at h
        obtain ⟨t9, ht10, h⟩ := h
        refine WL.op (op := .call { callee := (.value (.func 39)), args := #[(.tmp 12)], argTypes := #[9] }) (ty := 9) (d := some 13) (g := some (8, false)) (by kernel_rfl) (by kernel_rfl) (by kernel_rfl) (Does.call (f := 39) (args := [.string a0]) (by kernel_rfl) (fun W hI => (tokens_Norm_calls HT a0  t9 ht10 hI))) ?_
        rintro _ _ _ ⟨rfl, rfl, rfl⟩
        refine WL.rest 11 [2] (L' := [(2, .bool (!(t9.toList == a0.toList)))]) (by kernel_rfl) ?_
        refine QP.pick [2] ?_
        exact QP.meet ⟨_, Option.some.inj h, rfl, rfl, rfl⟩
  · rintro _ _ _ ⟨s1, rfl, rfl, rfl, rfl⟩
    clear h
    replace h := hk2
    refine WP.ret ?_
    obtain rfl := Option.some.inj h
    exact QP.returned [2] [.bool s1] _ (by kernel_rfl) (by kernel_rfl) (by kernel_rfl) (fun W hI => ⟨_, _, _, rfl, ⟨rfl, rfl, rfl⟩, hI⟩)

/-! ### slices.IndexFunc[[]string,string]: function 82 -/
def slices_IndexFunc_l0 (l0 : List ByteArray) : Nat → Int → Option (Sum Int Unit)
  | 0, _ => none
  | k + 1, y3 => (if y3 < (l0.length : Int) then (if 0 ≤ y3 ∧ y3 < (l0.length : Int) then ((ask_odd (l0.getD y3.toNat (⟨#[]⟩ : ByteArray))).bind fun t8 => (if t8 = true then some (Sum.inl y3) else slices_IndexFunc_l0 l0 k (IntKind.i64.wrap (y3 + 1)))) else none) else some (Sum.inr ()))
def slices_IndexFunc (k : Nat) (l0 : List ByteArray) : Option Int := ((slices_IndexFunc_l0 l0 k 0).bind fun os1 => match os1 with | Sum.inl r => some r | Sum.inr s1 => some (-1))
set_option maxHeartbeats 4000000 in
theorem slices_IndexFunc_calls {B : World} {G : GMap} {Γ : List Chunk} {W : World} (HT : Tabs B G) (k : Nat) (l0 : List ByteArray) (Al0 : Option Addr) (cl0 : Nat) (Hl0 : Rd kStr G Al0 cl0 l0) (r : Int) (h : slices_IndexFunc k l0 = some r) (hI : Inv B G (Γ) W) :
    Calls Tryd.prog 82 [.slice Al0 l0.length cl0, .func (.func 62) #[] #[]].toArray W (Ret B (fun v G' Γ' => v = .int .i64 r ∧ G = G' ∧ Γ = Γ')) := by
  refine calls_WP (Γ := Γ) (G := G) (B := B) Tryd.func82 rfl (by kernel_rfl) ?_ hI
  clear hI
  unfold slices_IndexFunc at h
  refine WP.seqP [0, 1] (L' := [(0, .slice Al0 l0.length cl0), (1, .func (.func 62) #[] #[])]) (by kernel_rfl) ?_
  refine WP.seq ?_
  refine WP.seqP [0, 1, 7, 8] (L' := [(0, .slice Al0 l0.length cl0), (1, .func (.func 62) #[] #[]), (7, .int .i64 (l0.length : Int)), (8, .int .i64 0)]) (by kernel_rfl) ?_
  rw [Option.bind_eq_some_iff] at h
  obtain ⟨os1, h, hk2⟩ := h
  refine WP.cutQ (fun L' G' Γ' => ∃ s1 : Unit, Sum.inr s1 = os1 ∧ L' = [] ∧ G = G' ∧ Γ = Γ') ?_ ?_
  · skip
    refine WP.block ?_
    refine WP.pick [0, 1, 7, 8] ?_
    refine WP.loopF (fun kn4 L' G' Γ' => ∃ (y3 : Int), slices_IndexFunc_l0 l0 kn4 y3 = some os1 ∧ L' = [(0, .slice Al0 l0.length cl0), (1, .func (.func 62) #[] #[]), (7, .int .i64 (l0.length : Int)), (8, .int .i64 y3)] ∧ G = G' ∧ Γ = Γ') ?_ k ⟨0, h, rfl, rfl, rfl⟩
    clear h
    rintro kn5 _ _ _ ⟨y3, h, rfl, rfl, rfl⟩
    cases kn5 with
    | zero => exact absurd h (by simp [slices_IndexFunc_l0])
    | succ kn5 =>
      simp only [slices_IndexFunc_l0] at h
      refine WP.seqP [0, 1, 7, 8, 9] (L' := [(0, .slice Al0 l0.length cl0), (1, .func (.func 62) #[] #[]), (7, .int .i64 (l0.length : Int)), (8, .int .i64 y3), (9, .bool (decide (y3 < (l0.length : Int))))]) (by kernel_rfl) ?_
      refine WP.seq ?_
      refine WP.cond (b := decide (y3 < (l0.length : Int))) (by kernel_rfl) (fun hc => ?_) (fun hc => ?_)
      · replace hc := of_decide_eq_true hc
        rw [if_pos hc] at h
        have hc6 := hc
        clear hc
        refine WP.skip ?_
        refine QP.next ?_
        refine WP.pick [0, 1, 7, 8] ?_
        refine WP.seq ?_
        refine WP.block ?_
        refine WP.seqP [0, 1, 5, 7, 8] (L' := [(0, .slice Al0 l0.length cl0), (1, .func (.func 62) #[] #[]), (5, .int .i64 y3), (7, .int .i64 (l0.length : Int)), (8, .int .i64 y3)]) (by kernel_rfl) ?_
        refine WP.seqR ?_
        refine WL.pure 0 3 [0, 1, 5, 7, 8, 11, 12, 13] (L' := [(0, .slice Al0 l0.length cl0), (1, .func (.func 62) #[] #[]), (5, .int .i64 y3), (7, .int .i64 (l0.length : Int)), (8, .int .i64 y3), (11, .func (.func 62) #[] #[]), (12, .slice Al0 l0.length cl0), (13, .int .i64 y3)]) (by kernel_rfl) (by decide) ?_
        by_cases hb7 : 0 ≤ y3 ∧ y3 < (l0.length : Int)
        case neg => rw [if_neg hb7] at h; cases h
        rw [if_pos hb7] at h
        refine WL.tell (op := .indexAddr 22 (.tmp 12) (.tmp 13)) (ty := 0) (d := some 14) (g := none) (by kernel_rfl) (by kernel_rfl) (by kernel_rfl) (Tells.indexAddr (A := Al0) (n := l0.length) (c := cl0) (k := .i64) (j := y3) (by kernel_rfl) (by kernel_rfl) (Hl0.isSome hb7.1 hb7.2) hb7.1 hb7.2 sl22) ?_
        refine WL.tellE (op := .load 9 (.tmp 14)) (ty := 9) (d := some 15) (g := none) (by kernel_rfl) (by kernel_rfl) (by kernel_rfl) (Hl0.load (agg := false) hb7.1 hb7.2 (⟨#[]⟩ : ByteArray) ag9 (fun _ => rfl) (by kernel_rfl)) ?_
        rintro _ rfl
        rw [Option.bind_eq_some_iff] at h
        obtain ⟨t8, ht9, h⟩ := h
        refine WL.op (op := .call { callee := (.value (.tmp 11)), args := #[(.tmp 15)], argTypes := #[9] }) (ty := 4) (d := some 16) (g := none) (by kernel_rfl) (by kernel_rfl) (by kernel_rfl) (Does.call (f := 62) (args := [.string (l0.getD y3.toNat (⟨#[]⟩ : ByteArray))]) (by kernel_rfl) (fun W hI => (ask_odd_calls HT (l0.getD y3.toNat (⟨#[]⟩ : ByteArray))  t8 ht9 hI))) ?_
        rintro _ _ _ ⟨rfl, rfl, rfl⟩
        refine WL.restQ 6 [0, 1, 5, 7, 8, 16] (L' := [(0, .slice Al0 l0.length cl0), (1, .func (.func 62) #[] #[]), (5, .int .i64 y3), (7, .int .i64 (l0.length : Int)), (8, .int .i64 y3), (16, .bool t8)]) (by kernel_rfl) ?_
        refine WP.cond (b := t8) (by kernel_rfl) (fun hc => ?_) (fun hc => ?_)
        · replace hc := hc
          rw [if_pos hc] at h
          have hc12 := hc
          clear hc
          refine WP.seqP [4] (L' := [(4, .int .i64 y3)]) (by kernel_rfl) ?_
          refine WP.ret ?_
          refine QP.blockR ?_
          refine QP.thenR ?_
          refine QP.thenR ?_
          refine QP.blockR ?_
          refine QP.thenR ?_
          refine QP.thenR ?_
          obtain rfl := Option.some.inj h
          obtain rfl := Option.some.inj (show some _ = some _ from hk2)
          exact QP.returned [4] [.int .i64 y3] _ (by kernel_rfl) (by kernel_rfl) (by kernel_rfl) (fun W hI => ⟨_, _, _, rfl, ⟨rfl, rfl, rfl⟩, hI⟩)
        · replace hc := (Bool.eq_false_iff.1 hc)
          rw [if_neg hc] at h
          have hc12 := hc
          clear hc
          refine WP.skip ?_
          refine QP.blockN ?_
          refine QP.next ?_
          refine WP.pick [0, 1, 7, 8] ?_
          refine WP.regionP [0, 1, 7, 8] (L' := [(0, .slice Al0 l0.length cl0), (1, .func (.func 62) #[] #[]), (7, .int .i64 (l0.length : Int)), (8, .int .i64 (IntKind.i64.wrap (y3 + 1)))]) (by kernel_rfl) ?_
          refine QP.pick [0, 1, 7, 8] ?_
          exact QP.meet ⟨kn5, Nat.lt_succ_self _, (IntKind.i64.wrap (y3 + 1)), h, rfl, rfl, rfl⟩
      · replace hc := of_decide_eq_false hc
        rw [if_neg hc] at h
        have hc6 := hc
        clear hc
        refine WP.exit ?_
        refine QP.thenE ?_
        refine QP.thenE ?_
        refine QP.blockE ?_
        refine QP.pick [] ?_
        exact QP.meet ⟨_, Option.some.inj h, rfl, rfl, rfl⟩
  · rintro _ _ _ ⟨s1, rfl, rfl, rfl, rfl⟩
    clear h
    replace h := hk2
    dsimp only at h
    refine QP.next ?_
    refine WP.pick [] ?_
    refine WP.seqP [4] (L' := [(4, .int .i64 (-1))]) (by kernel_rfl) ?_
    refine WP.ret ?_
    obtain rfl := Option.some.inj h
    exact QP.returned [4] [.int .i64 (-1)] _ (by kernel_rfl) (by kernel_rfl) (by kernel_rfl) (fun W hI => ⟨_, _, _, rfl, ⟨rfl, rfl, rfl⟩, hI⟩)

/-! ### slices.ContainsFunc[[]string,string]: function 61 -/
def slices_ContainsFunc (k : Nat) (l0 : List ByteArray) : Option Bool := ((slices_IndexFunc k l0).bind fun t1 => some (decide (t1 ≥ 0)))
set_option maxHeartbeats 4000000 in
theorem slices_ContainsFunc_calls {B : World} {G : GMap} {Γ : List Chunk} {W : World} (HT : Tabs B G) (k : Nat) (l0 : List ByteArray) (Al0 : Option Addr) (cl0 : Nat) (Hl0 : Rd kStr G Al0 cl0 l0) (r : Bool) (h : slices_ContainsFunc k l0 = some r) (hI : Inv B G (Γ) W) :
    Calls Tryd.prog 61 [.slice Al0 l0.length cl0, .func (.func 62) #[] #[]].toArray W (Ret B (fun v G' Γ' => v = .bool r ∧ G = G' ∧ Γ = Γ')) := by
  refine calls_WP (Γ := Γ) (G := G) (B := B) Tryd.func61 rfl (by kernel_rfl) ?_ hI
  clear hI
  unfold slices_ContainsFunc at h
  refine WP.seqP [0, 1] (L' := [(0, .slice Al0 l0.length cl0), (1, .func (.func 62) #[] #[])]) (by kernel_rfl) ?_
  refine WP.seqR ?_
  refine WL.pure 0 2 [5, 6] (L' := [(5, .slice Al0 l0.length cl0), (6, .func (.func 62) #[] #[])]) (by kernel_rfl) (by decide) ?_
  rw [Option.bind_eq_some_iff] at h
  obtain ⟨t1, ht2, h⟩ := h
  refine WL.op (op := .call { callee := (.value (.func 82)), args := #[(.tmp 5), (.tmp 6)], argTypes := #[22, 63] }) (ty := 3) (d := some 7) (g := none) (by kernel_rfl) (by kernel_rfl) (by kernel_rfl) (Does.call (f := 82) (args := [.slice Al0 l0.length cl0, .func (.func 62) #[] #[]]) (by kernel_rfl) (fun W hI => (slices_IndexFunc_calls HT k l0 Al0 cl0 Hl0 t1 ht2 hI))) ?_
  rintro _ _ _ ⟨rfl, rfl, rfl⟩
  refine WL.restQ 3 [4] (L' := [(4, .bool (decide (t1 ≥ 0)))]) (by kernel_rfl) ?_
  refine WP.ret ?_
  obtain rfl := Option.some.inj h
  exact QP.returned [4] [.bool (decide (t1 ≥ 0))] _ (by kernel_rfl) (by kernel_rfl) (by kernel_rfl) (fun W hI => ⟨_, _, _, rfl, ⟨rfl, rfl, rfl⟩, hI⟩)

/-! ### grapevine/ask.good$1: function 63 -/
def ask_good_1 (rec_ : T25 → Option Bool) (a0 : T25) : Option Bool := ((rec_ a0).bind fun t2 => some (!t2))
set_option maxHeartbeats 4000000 in
theorem ask_good_1_calls {B : World} {G : GMap} {Γ : List Chunk} {W : World} (HT : Tabs B G) (rec_ : T25 → Option Bool) (Hrec : ∀ {B : World} {G : GMap} {Γ : List Chunk} {W : World} (HT : Tabs B G) (a0 : T25) (Aa0_f2 : Option Addr) (ca0_f2 : Nat) (Ha0_f2 : Rd kStr G Aa0_f2 ca0_f2 a0.f2) (Aa0_f3 : Option Addr) (ca0_f3 : Nat) (Ha0_f3 : Rd k25 G Aa0_f3 ca0_f3 a0.f3) (r : Bool) (h : rec_ a0 = some r) (hI : Inv B G (Γ) W),
    Calls Tryd.prog 34 [.agg #[.int .i64 a0.f0, .int .i64 a0.f1, .slice Aa0_f2 a0.f2.length ca0_f2, .slice Aa0_f3 a0.f3.length ca0_f3]].toArray W (Ret B (fun v G' Γ' => v = .bool r ∧ G = G' ∧ Γ = Γ'))) (a0 : T25) (Aa0_f2 : Option Addr) (ca0_f2 : Nat) (Ha0_f2 : Rd kStr G Aa0_f2 ca0_f2 a0.f2) (Aa0_f3 : Option Addr) (ca0_f3 : Nat) (Ha0_f3 : Rd k25 G Aa0_f3 ca0_f3 a0.f3) (r : Bool) (h : ask_good_1 rec_ a0 = some r) (hI : Inv B G (Γ) W) :
    Calls Tryd.prog 63 [.agg #[.int .i64 a0.f0, .int .i64 a0.f1, .slice Aa0_f2 a0.f2.length ca0_f2, .slice Aa0_f3 a0.f3.length ca0_f3]].toArray W (Ret B (fun v G' Γ' => v = .bool r ∧ G = G' ∧ Γ = Γ')) := by
  refine calls_WP (Γ := Γ) (G := G) (B := B) Tryd.func63 rfl (by kernel_rfl) ?_ hI
  clear hI
  unfold ask_good_1 at h
  refine WP.seqR ?_
  refine WL.op (op := .box 25 (.tmp 0)) (ty := 0) (d := some 1) (g := none) (by kernel_rfl) (by kernel_rfl) (by kernel_rfl) (Does.new (o := .cells #[.int .i64 a0.f0, .int .i64 a0.f1, .slice Aa0_f2 a0.f2.length ca0_f2, .slice Aa0_f3 a0.f3.length ca0_f3] 25 (0, 0)) (v := fun r => .pointer (some ⟨r, 0, none⟩)) (fun r => by kernel_rfl)) ?_
  rintro _ _ _ ⟨b1, rfl, rfl, rfl⟩
  refine WL.restQ 1 [1] (L' := [(1, .pointer (some ⟨b1, 0, none⟩))]) (by kernel_rfl) ?_
  refine WP.seqR ?_
  refine WL.tell (op := .load 25 (.tmp 1)) (ty := 25) (d := some 3) (g := none) (by kernel_rfl) (by kernel_rfl) (by kernel_rfl) (Tells.load_box (i := 0) (b := b1) (o := 0) (agg := true) (by rfl) ag25 (by kernel_rfl) (fun h => by cases h) (Nat.le_of_ble_eq_true rfl) (v := .agg #[.int .i64 a0.f0, .int .i64 a0.f1, .slice Aa0_f2 a0.f2.length ca0_f2, .slice Aa0_f3 a0.f3.length ca0_f3]) (by kernel_rfl)) ?_
  rw [Option.bind_eq_some_iff] at h
  obtain ⟨t2, ht3, h⟩ := h
  refine WL.op (op := .call { callee := (.value (.func 34)), args := #[(.tmp 3)], argTypes := #[25] }) (ty := 4) (d := some 4) (g := none) (by kernel_rfl) (by kernel_rfl) (by kernel_rfl) (Does.call (f := 34) (args := [.agg #[.int .i64 a0.f0, .int .i64 a0.f1, .slice Aa0_f2 a0.f2.length ca0_f2, .slice Aa0_f3 a0.f3.length ca0_f3]]) (by kernel_rfl) (fun W hI => (Hrec HT a0 Aa0_f2 ca0_f2 Ha0_f2 Aa0_f3 ca0_f3 Ha0_f3 t2 ht3 hI))) ?_
  rintro _ _ _ ⟨rfl, rfl, rfl⟩
  refine WL.restQ 2 [2] (L' := [(2, .bool (!t2))]) (by kernel_rfl) ?_
  refine WP.dropAt 0 ?_
  refine WP.ret ?_
  obtain rfl := Option.some.inj h
  exact QP.returned [2] [.bool (!t2)] _ (by kernel_rfl) (by kernel_rfl) (by kernel_rfl) (fun W hI => ⟨_, _, _, rfl, ⟨rfl, rfl, rfl⟩, hI⟩)

/-! ### slices.IndexFunc[[]grapevine/api.Ask,grapevine/api.Ask]: function 77 -/
def slices_IndexFunc_25_l0 (l0 : List T25) (rec_ : T25 → Option Bool) : Nat → Int → Option (Sum Int Unit)
  | 0, _ => none
  | k + 1, y3 => (if y3 < (l0.length : Int) then (if 0 ≤ y3 ∧ y3 < (l0.length : Int) then ((ask_good_1 rec_ (l0.getD y3.toNat z25)).bind fun t10 => (if t10 = true then some (Sum.inl y3) else slices_IndexFunc_25_l0 l0 rec_ k (IntKind.i64.wrap (y3 + 1)))) else none) else some (Sum.inr ()))
def slices_IndexFunc_25 (rec_ : T25 → Option Bool) (k : Nat) (l0 : List T25) : Option Int := ((slices_IndexFunc_25_l0 l0 rec_ k 0).bind fun os1 => match os1 with | Sum.inl r => some r | Sum.inr s1 => some (-1))
set_option maxHeartbeats 4000000 in
theorem slices_IndexFunc_25_calls {B : World} {G : GMap} {Γ : List Chunk} {W : World} (HT : Tabs B G) (rec_ : T25 → Option Bool) (Hrec : ∀ {B : World} {G : GMap} {Γ : List Chunk} {W : World} (HT : Tabs B G) (a0 : T25) (Aa0_f2 : Option Addr) (ca0_f2 : Nat) (Ha0_f2 : Rd kStr G Aa0_f2 ca0_f2 a0.f2) (Aa0_f3 : Option Addr) (ca0_f3 : Nat) (Ha0_f3 : Rd k25 G Aa0_f3 ca0_f3 a0.f3) (r : Bool) (h : rec_ a0 = some r) (hI : Inv B G (Γ) W),
    Calls Tryd.prog 34 [.agg #[.int .i64 a0.f0, .int .i64 a0.f1, .slice Aa0_f2 a0.f2.length ca0_f2, .slice Aa0_f3 a0.f3.length ca0_f3]].toArray W (Ret B (fun v G' Γ' => v = .bool r ∧ G = G' ∧ Γ = Γ'))) (k : Nat) (l0 : List T25) (Al0 : Option Addr) (cl0 : Nat) (Hl0 : Rd k25 G Al0 cl0 l0) (r : Int) (h : slices_IndexFunc_25 rec_ k l0 = some r) (hI : Inv B G (Γ) W) :
    Calls Tryd.prog 77 [.slice Al0 l0.length cl0, .func (.func 63) #[] #[]].toArray W (Ret B (fun v G' Γ' => v = .int .i64 r ∧ G = G' ∧ Γ = Γ')) := by
  refine calls_WP (Γ := Γ) (G := G) (B := B) Tryd.func77 rfl (by kernel_rfl) ?_ hI
  clear hI
  unfold slices_IndexFunc_25 at h
  refine WP.seqP [0, 1] (L' := [(0, .slice Al0 l0.length cl0), (1, .func (.func 63) #[] #[])]) (by kernel_rfl) ?_
  refine WP.seq ?_
  refine WP.seqP [0, 1, 7, 8] (L' := [(0, .slice Al0 l0.length cl0), (1, .func (.func 63) #[] #[]), (7, .int .i64 (l0.length : Int)), (8, .int .i64 0)]) (by kernel_rfl) ?_
  rw [Option.bind_eq_some_iff] at h
  obtain ⟨os1, h, hk2⟩ := h
  refine WP.cutQ (fun L' G' Γ' => ∃ s1 : Unit, Sum.inr s1 = os1 ∧ L' = [] ∧ G = G' ∧ Γ = Γ') ?_ ?_
  · skip
    refine WP.block ?_
    refine WP.pick [0, 1, 7, 8] ?_
    refine WP.loopF (fun kn4 L' G' Γ' => ∃ (y3 : Int), slices_IndexFunc_25_l0 l0 rec_ kn4 y3 = some os1 ∧ L' = [(0, .slice Al0 l0.length cl0), (1, .func (.func 63) #[] #[]), (7, .int .i64 (l0.length : Int)), (8, .int .i64 y3)] ∧ G = G' ∧ Γ = Γ') ?_ k ⟨0, h, rfl, rfl, rfl⟩
    clear h
    rintro kn5 _ _ _ ⟨y3, h, rfl, rfl, rfl⟩
    cases kn5 with
    | zero => exact absurd h (by simp [slices_IndexFunc_25_l0])
    | succ kn5 =>
      simp only [slices_IndexFunc_25_l0] at h
      refine WP.seqP [0, 1, 7, 8, 9] (L' := [(0, .slice Al0 l0.length cl0), (1, .func (.func 63) #[] #[]), (7, .int .i64 (l0.length : Int)), (8, .int .i64 y3), (9, .bool (decide (y3 < (l0.length : Int))))]) (by kernel_rfl) ?_
      refine WP.seq ?_
      refine WP.cond (b := decide (y3 < (l0.length : Int))) (by kernel_rfl) (fun hc => ?_) (fun hc => ?_)
      · replace hc := of_decide_eq_true hc
        rw [if_pos hc] at h
        have hc6 := hc
        clear hc
        refine WP.skip ?_
        refine QP.next ?_
        refine WP.pick [0, 1, 7, 8] ?_
        refine WP.seq ?_
        refine WP.block ?_
        refine WP.seqP [0, 1, 5, 7, 8] (L' := [(0, .slice Al0 l0.length cl0), (1, .func (.func 63) #[] #[]), (5, .int .i64 y3), (7, .int .i64 (l0.length : Int)), (8, .int .i64 y3)]) (by kernel_rfl) ?_
        refine WP.seqR ?_
        refine WL.pure 0 3 [0, 1, 5, 7, 8, 11, 12, 13] (L' := [(0, .slice Al0 l0.length cl0), (1, .func (.func 63) #[] #[]), (5, .int .i64 y3), (7, .int .i64 (l0.length : Int)), (8, .int .i64 y3), (11, .func (.func 63) #[] #[]), (12, .slice Al0 l0.length cl0), (13, .int .i64 y3)]) (by kernel_rfl) (by decide) ?_
        by_cases hb7 : 0 ≤ y3 ∧ y3 < (l0.length : Int)
        case neg => rw [if_neg hb7] at h; cases h
        rw [if_pos hb7] at h
        refine WL.tell (op := .indexAddr 23 (.tmp 12) (.tmp 13)) (ty := 0) (d := some 14) (g := none) (by kernel_rfl) (by kernel_rfl) (by kernel_rfl) (Tells.indexAddr (A := Al0) (n := l0.length) (c := cl0) (k := .i64) (j := y3) (by kernel_rfl) (by kernel_rfl) (Hl0.isSome hb7.1 hb7.2) hb7.1 hb7.2 sl23) ?_
        refine WL.tellE (op := .load 25 (.tmp 14)) (ty := 25) (d := some 15) (g := none) (by kernel_rfl) (by kernel_rfl) (by kernel_rfl) (Hl0.load (agg := true) hb7.1 hb7.2 z25 ag25 (fun h => by cases h) (by kernel_rfl)) ?_
        rintro _ hrel
        obtain ⟨_, _, rfl, rfl, ⟨_, _, rfl, rfl, ⟨_, _, rfl, ⟨Ae8, ce8, rfl, He8⟩, ⟨Ae9, ce9, rfl, He9⟩⟩⟩⟩ := k25_out hrel
        replace He8 : Rd kStr G Ae8 ce8 ((l0.getD y3.toNat z25).f2) := He8
        replace He9 : Rd k25 G Ae9 ce9 ((l0.getD y3.toNat z25).f3) := He9
        rw [Option.bind_eq_some_iff] at h
        obtain ⟨t10, ht11, h⟩ := h
        refine WL.op (op := .call { callee := (.value (.tmp 11)), args := #[(.tmp 15)], argTypes := #[25] }) (ty := 4) (d := some 16) (g := none) (by kernel_rfl) (by kernel_rfl) (by kernel_rfl) (Does.call (f := 63) (args := [.agg #[.int .i64 ((l0.getD y3.toNat z25).f0), .int .i64 ((l0.getD y3.toNat z25).f1), .slice Ae8 ((l0.getD y3.toNat z25).f2).length ce8, .slice Ae9 ((l0.getD y3.toNat z25).f3).length ce9]]) (by kernel_rfl) (fun W hI => (ask_good_1_calls HT rec_ Hrec (l0.getD y3.toNat z25) Ae8 ce8 He8 Ae9 ce9 He9 t10 ht11 hI))) ?_
        rintro _ _ _ ⟨rfl, rfl, rfl⟩
        refine WL.restQ 6 [0, 1, 5, 7, 8, 16] (L' := [(0, .slice Al0 l0.length cl0), (1, .func (.func 63) #[] #[]), (5, .int .i64 y3), (7, .int .i64 (l0.length : Int)), (8, .int .i64 y3), (16, .bool t10)]) (by kernel_rfl) ?_
        refine WP.cond (b := t10) (by kernel_rfl) (fun hc => ?_) (fun hc => ?_)
        · replace hc := hc
          rw [if_pos hc] at h
          have hc14 := hc
          clear hc
          refine WP.seqP [4] (L' := [(4, .int .i64 y3)]) (by kernel_rfl) ?_
          refine WP.ret ?_
          refine QP.blockR ?_
          refine QP.thenR ?_
          refine QP.thenR ?_
          refine QP.blockR ?_
          refine QP.thenR ?_
          refine QP.thenR ?_
          obtain rfl := Option.some.inj h
          obtain rfl := Option.some.inj (show some _ = some _ from hk2)
          exact QP.returned [4] [.int .i64 y3] _ (by kernel_rfl) (by kernel_rfl) (by kernel_rfl) (fun W hI => ⟨_, _, _, rfl, ⟨rfl, rfl, rfl⟩, hI⟩)
        · replace hc := (Bool.eq_false_iff.1 hc)
          rw [if_neg hc] at h
          have hc14 := hc
          clear hc
          refine WP.skip ?_
          refine QP.blockN ?_
          refine QP.next ?_
          refine WP.pick [0, 1, 7, 8] ?_
          refine WP.regionP [0, 1, 7, 8] (L' := [(0, .slice Al0 l0.length cl0), (1, .func (.func 63) #[] #[]), (7, .int .i64 (l0.length : Int)), (8, .int .i64 (IntKind.i64.wrap (y3 + 1)))]) (by kernel_rfl) ?_
          refine QP.pick [0, 1, 7, 8] ?_
          exact QP.meet ⟨kn5, Nat.lt_succ_self _, (IntKind.i64.wrap (y3 + 1)), h, rfl, rfl, rfl⟩
      · replace hc := of_decide_eq_false hc
        rw [if_neg hc] at h
        have hc6 := hc
        clear hc
        refine WP.exit ?_
        refine QP.thenE ?_
        refine QP.thenE ?_
        refine QP.blockE ?_
        refine QP.pick [] ?_
        exact QP.meet ⟨_, Option.some.inj h, rfl, rfl, rfl⟩
  · rintro _ _ _ ⟨s1, rfl, rfl, rfl, rfl⟩
    clear h
    replace h := hk2
    dsimp only at h
    refine QP.next ?_
    refine WP.pick [] ?_
    refine WP.seqP [4] (L' := [(4, .int .i64 (-1))]) (by kernel_rfl) ?_
    refine WP.ret ?_
    obtain rfl := Option.some.inj h
    exact QP.returned [4] [.int .i64 (-1)] _ (by kernel_rfl) (by kernel_rfl) (by kernel_rfl) (fun W hI => ⟨_, _, _, rfl, ⟨rfl, rfl, rfl⟩, hI⟩)

/-! ### slices.ContainsFunc[[]grapevine/api.Ask,grapevine/api.Ask]: function 49 -/
def slices_ContainsFunc_24 (rec_ : T25 → Option Bool) (k : Nat) (l0 : List T25) : Option Bool := ((slices_IndexFunc_25 rec_ k l0).bind fun t1 => some (decide (t1 ≥ 0)))
set_option maxHeartbeats 4000000 in
theorem slices_ContainsFunc_24_calls {B : World} {G : GMap} {Γ : List Chunk} {W : World} (HT : Tabs B G) (rec_ : T25 → Option Bool) (Hrec : ∀ {B : World} {G : GMap} {Γ : List Chunk} {W : World} (HT : Tabs B G) (a0 : T25) (Aa0_f2 : Option Addr) (ca0_f2 : Nat) (Ha0_f2 : Rd kStr G Aa0_f2 ca0_f2 a0.f2) (Aa0_f3 : Option Addr) (ca0_f3 : Nat) (Ha0_f3 : Rd k25 G Aa0_f3 ca0_f3 a0.f3) (r : Bool) (h : rec_ a0 = some r) (hI : Inv B G (Γ) W),
    Calls Tryd.prog 34 [.agg #[.int .i64 a0.f0, .int .i64 a0.f1, .slice Aa0_f2 a0.f2.length ca0_f2, .slice Aa0_f3 a0.f3.length ca0_f3]].toArray W (Ret B (fun v G' Γ' => v = .bool r ∧ G = G' ∧ Γ = Γ'))) (k : Nat) (l0 : List T25) (Al0 : Option Addr) (cl0 : Nat) (Hl0 : Rd k25 G Al0 cl0 l0) (r : Bool) (h : slices_ContainsFunc_24 rec_ k l0 = some r) (hI : Inv B G (Γ) W) :
    Calls Tryd.prog 49 [.slice Al0 l0.length cl0, .func (.func 63) #[] #[]].toArray W (Ret B (fun v G' Γ' => v = .bool r ∧ G = G' ∧ Γ = Γ')) := by
  refine calls_WP (Γ := Γ) (G := G) (B := B) Tryd.func49 rfl (by kernel_rfl) ?_ hI
  clear hI
  unfold slices_ContainsFunc_24 at h
  refine WP.seqP [0, 1] (L' := [(0, .slice Al0 l0.length cl0), (1, .func (.func 63) #[] #[])]) (by kernel_rfl) ?_
  refine WP.seqR ?_
  refine WL.pure 0 2 [5, 6] (L' := [(5, .slice Al0 l0.length cl0), (6, .func (.func 63) #[] #[])]) (by kernel_rfl) (by decide) ?_
  rw [Option.bind_eq_some_iff] at h
  obtain ⟨t1, ht2, h⟩ := h
  refine WL.op (op := .call { callee := (.value (.func 77)), args := #[(.tmp 5), (.tmp 6)], argTypes := #[23, 33] }) (ty := 3) (d := some 7) (g := none) (by kernel_rfl) (by kernel_rfl) (by kernel_rfl) (Does.call (f := 77) (args := [.slice Al0 l0.length cl0, .func (.func 63) #[] #[]]) (by kernel_rfl) (fun W hI => (slices_IndexFunc_25_calls HT rec_ Hrec k l0 Al0 cl0 Hl0 t1 ht2 hI))) ?_
  rintro _ _ _ ⟨rfl, rfl, rfl⟩
  refine WL.restQ 3 [4] (L' := [(4, .bool (decide (t1 ≥ 0)))]) (by kernel_rfl) ?_
  refine WP.ret ?_
  obtain rfl := Option.some.inj h
  exact QP.returned [4] [.bool (decide (t1 ≥ 0))] _ (by kernel_rfl) (by kernel_rfl) (by kernel_rfl) (fun W hI => ⟨_, _, _, rfl, ⟨rfl, rfl, rfl⟩, hI⟩)

/-! ### grapevine/ask.good: function 34 -/
def ask_good : Nat → T25 → Option Bool
  | 0, _ => none
  | k + 1, a0 => ((ask_shaped a0.f0).bind fun t2 => ((if (!t2.2) = true then some true else (if a0.f1 < 0 then some true else (if a0.f1 > t2.1.f4 then some true else (if (a0.f2.length : Int) < t2.1.f0 then some true else (if (a0.f2.length : Int) > t2.1.f1 then some true else (if (a0.f3.length : Int) < t2.1.f2 then some true else some (decide ((a0.f3.length : Int) > t2.1.f3)))))))).bind fun s7 => (if s7 = true then some false else (((slices_ContainsFunc k a0.f2).bind fun t18 => (if (!t18) = true then ((slices_ContainsFunc_24 (ask_good k) k a0.f3).bind fun t23 => some (!t23)) else some false)).bind fun s16 => some s16))))
set_option maxHeartbeats 4000000 in
theorem ask_good_calls_k (k : Nat) : ∀ {B : World} {G : GMap} {Γ : List Chunk} {W : World} (HT : Tabs B G) (a0 : T25) (Aa0_f2 : Option Addr) (ca0_f2 : Nat) (Ha0_f2 : Rd kStr G Aa0_f2 ca0_f2 a0.f2) (Aa0_f3 : Option Addr) (ca0_f3 : Nat) (Ha0_f3 : Rd k25 G Aa0_f3 ca0_f3 a0.f3) (r : Bool) (h : ask_good k a0 = some r) (hI : Inv B G (Γ) W),
    Calls Tryd.prog 34 [.agg #[.int .i64 a0.f0, .int .i64 a0.f1, .slice Aa0_f2 a0.f2.length ca0_f2, .slice Aa0_f3 a0.f3.length ca0_f3]].toArray W (Ret B (fun v G' Γ' => v = .bool r ∧ G = G' ∧ Γ = Γ')) := by
  induction k with
  | zero => intro B G Γ W HT a0 Aa0_f2 ca0_f2 Ha0_f2 Aa0_f3 ca0_f3 Ha0_f3 r h hI; exact absurd h (by simp [ask_good])
  | succ kf ih =>
    intro B G Γ W HT a0 Aa0_f2 ca0_f2 Ha0_f2 Aa0_f3 ca0_f3 Ha0_f3 r h hI
    refine calls_WP (Γ := Γ) (G := G) (B := B) Tryd.func34 rfl (by kernel_rfl) ?_ hI
    clear hI
    simp only [ask_good] at h
    refine WP.seqR ?_
    refine WL.op (op := .box 25 (.tmp 0)) (ty := 0) (d := some 1) (g := none) (by kernel_rfl) (by kernel_rfl) (by kernel_rfl) (Does.new (o := .cells #[.int .i64 a0.f0, .int .i64 a0.f1, .slice Aa0_f2 a0.f2.length ca0_f2, .slice Aa0_f3 a0.f3.length ca0_f3] 25 (0, 0)) (v := fun r => .pointer (some ⟨r, 0, none⟩)) (fun r => by kernel_rfl)) ?_
    rintro _ _ _ ⟨b1, rfl, rfl, rfl⟩
    refine WL.restQ 1 [1] (L' := [(1, .pointer (some ⟨b1, 0, none⟩))]) (by kernel_rfl) ?_
    refine WP.seqR ?_
    refine WL.pure 0 1 [1, 8] (L' := [(1, .pointer (some ⟨b1, 0, none⟩)), (8, .pointer (some ⟨b1, 0, none⟩))]) (by kernel_rfl) (by decide) ?_
    refine WL.tell (op := .load 3 (.tmp 8)) (ty := 3) (d := some 9) (g := none) (by kernel_rfl) (by kernel_rfl) (by kernel_rfl) (Tells.load_box (i := 0) (b := b1) (o := 0) (agg := false) (by rfl) ag3 (by kernel_rfl) (fun _ => rfl) (Nat.le_of_ble_eq_true rfl) (v := .int .i64 a0.f0) (by kernel_rfl)) ?_
    rw [Option.bind_eq_some_iff] at h
    obtain ⟨t2, ht3, h⟩ := h
    refine WL.op (op := .call { callee := (.value (.func 60)), args := #[(.tmp 9)], argTypes := #[3] }) (ty := 84) (d := some 10) (g := none) (by kernel_rfl) (by kernel_rfl) (by kernel_rfl) (Does.call (f := 60) (args := [.int .i64 a0.f0]) (by kernel_rfl) (fun W hI => (ask_shaped_calls a0.f0  t2 ht3 hI))) ?_
    rintro _ _ _ ⟨rfl, rfl, rfl⟩
    refine WL.pure 3 6 [1, 11, 12] (L' := [(1, .pointer (some ⟨b1, 0, none⟩)), (11, .agg #[.int .i64 t2.1.f0, .int .i64 t2.1.f1, .int .i64 t2.1.f2, .int .i64 t2.1.f3, .int .i64 t2.1.f4]), (12, .bool t2.2)]) (by kernel_rfl) (by decide) ?_
    refine WL.op (op := .alloc 83) (ty := 0) (d := some 3) (g := none) (by kernel_rfl) (by kernel_rfl) (by kernel_rfl) (Does.new (o := .cells #[.int .i64 0, .int .i64 0, .int .i64 0, .int .i64 0, .int .i64 0] 83 (0, 0)) (v := fun r => .pointer (some ⟨r, 0, none⟩)) (fun r => by kernel_rfl)) ?_
    rintro _ _ _ ⟨b6, rfl, rfl, rfl⟩
    refine WL.op (op := .store 83 (.tmp 3) (.tmp 11)) (ty := 0) (d := none) (g := none) (by kernel_rfl) (by kernel_rfl) (by kernel_rfl) (Does.store_box (i := 0) (b := b6) (o := 0) (v := .agg #[.int .i64 t2.1.f0, .int .i64 t2.1.f1, .int .i64 t2.1.f2, .int .i64 t2.1.f3, .int .i64 t2.1.f4]) (by rfl) sz83 (by kernel_rfl) (by kernel_rfl) (by kernel_rfl) (Free.zero _) (Nat.le_of_ble_eq_true rfl) (cells' := #[.int .i64 t2.1.f0, .int .i64 t2.1.f1, .int .i64 t2.1.f2, .int .i64 t2.1.f3, .int .i64 t2.1.f4]) (by kernel_rfl)) ?_
    rintro _ _ _ ⟨rfl, rfl, rfl⟩
    refine WL.restQ 8 [1, 3, 4] (L' := [(1, .pointer (some ⟨b1, 0, none⟩)), (3, .pointer (some ⟨b6, 0, none⟩)), (4, .bool t2.2)]) (by kernel_rfl) ?_
    refine WP.seq ?_
    refine WP.any (N := 8) (S := [⟨some 13, [1], []⟩, ⟨some 14, [13], [0]⟩, ⟨some 15, [14], [1]⟩, ⟨some 16, [1], []⟩, ⟨some 17, [16], [3]⟩, ⟨some 18, [17], [4]⟩, ⟨some 5, [15], [0, 1, 2]⟩, ⟨some 6, [18], [0, 1, 2, 3, 4, 5, 6]⟩]) (kw := 8) (G0 := G) (Γ0 := [(b6, .cells #[.int .i64 t2.1.f0, .int .i64 t2.1.f1, .int .i64 t2.1.f2, .int .i64 t2.1.f3, .int .i64 t2.1.f4] 83 (0, 0))] :: [(b1, .cells #[.int .i64 a0.f0, .int .i64 a0.f1, .slice Aa0_f2 a0.f2.length ca0_f2, .slice Aa0_f3 a0.f3.length ca0_f3] 25 (0, 0))] :: Γ) mo (by kernel_rfl) (fun hS => ?_)
    refine WA.pure [0, 3] [1, 3, 4, 13, 16] (m := 6) (b' := 9) (L' := [(1, .pointer (some ⟨b1, 0, none⟩)), (3, .pointer (some ⟨b6, 0, none⟩)), (4, .bool t2.2), (13, .pointer (some ⟨b1, 2, none⟩)), (16, .pointer (some ⟨b1, 3, none⟩))]) (by kernel_rfl) (NoPanic.then (NoPanic.body)) Under.refl hS (by kernel_rfl) ?_
    refine WA.tellD [] (i := 1) (m := 5) (b' := 11) (by kernel_rfl) (NoPanic.then (NoPanic.body)) Under.refl hS (by kernel_rfl) (op := .load 22 (.tmp 13)) (ty := 22) (d := some 14) (g := none) (by kernel_rfl) (by kernel_rfl) (by kernel_rfl) (Tells.load_box (i := 1) (b := b1) (o := 2) (agg := false) (by rfl) ag22 (by kernel_rfl) (fun _ => rfl) (Nat.le_of_ble_eq_true rfl) (v := .slice Aa0_f2 a0.f2.length ca0_f2) (by kernel_rfl)) ?_
    refine WA.pure [2, 6] [1, 3, 4, 5, 16] (m := 3) (b' := 79) (L' := [(1, .pointer (some ⟨b1, 0, none⟩)), (3, .pointer (some ⟨b6, 0, none⟩)), (4, .bool t2.2), (5, .int .i64 (a0.f2.length : Int)), (16, .pointer (some ⟨b1, 3, none⟩))]) (by kernel_rfl) (NoPanic.then (NoPanic.body)) Under.refl hS (by kernel_rfl) ?_
    refine WA.tellD [] (i := 4) (m := 2) (b' := 95) (by kernel_rfl) (NoPanic.then (NoPanic.body)) Under.refl hS (by kernel_rfl) (op := .load 23 (.tmp 16)) (ty := 23) (d := some 17) (g := none) (by kernel_rfl) (by kernel_rfl) (by kernel_rfl) (Tells.load_box (i := 1) (b := b1) (o := 3) (agg := false) (by rfl) ag23 (by kernel_rfl) (fun _ => rfl) (Nat.le_of_ble_eq_true rfl) (v := .slice Aa0_f3 a0.f3.length ca0_f3) (by kernel_rfl)) ?_
    refine WA.pure [5, 7] [1, 3, 4, 5, 6] (m := 0) (b' := 255) (L' := [(1, .pointer (some ⟨b1, 0, none⟩)), (3, .pointer (some ⟨b6, 0, none⟩)), (4, .bool t2.2), (5, .int .i64 (a0.f2.length : Int)), (6, .int .i64 (a0.f3.length : Int))]) (by kernel_rfl) (NoPanic.then (NoPanic.body)) Under.refl hS (by kernel_rfl) ?_
    refine WA.done hS (by kernel_rfl) ?_
    refine QP.pick [1, 3, 4, 5, 6] ?_
    refine QP.next ?_
    refine WP.seq ?_
    rw [Option.bind_eq_some_iff] at h
    obtain ⟨os7, h, hk8⟩ := h
    refine WP.cut (fun L' G' Γ' => ∃ s7 : Bool, s7 = os7 ∧ L' = [(1, .pointer (some ⟨b1, 0, none⟩)), (56, .bool s7)] ∧ G = G' ∧ [(b1, .cells #[.int .i64 a0.f0, .int .i64 a0.f1, .slice Aa0_f2 a0.f2.length ca0_f2, .slice Aa0_f3 a0.f3.length ca0_f3] 25 (0, 0))] :: Γ = Γ') ?_ ?_
    · clear hk8
      refine WP.region ?_
      refine WL.pure 0 3 [1, 3, 5, 6, 21] (L' := [(1, .pointer (some ⟨b1, 0, none⟩)), (3, .pointer (some ⟨b6, 0, none⟩)), (5, .int .i64 (a0.f2.length : Int)), (6, .int .i64 (a0.f3.length : Int)), (21, .bool (!t2.2))]) (by kernel_rfl) (by decide) ?_
      refine WL.split 21 (b := (!t2.2)) (by kernel_rfl) (fun hc => ?_) (fun hc => ?_)
      · replace hc := hc
        rw [if_pos hc] at h
        have hc9 := hc
        clear hc
        refine WL.rest 3 [1, 56] (L' := [(1, .pointer (some ⟨b1, 0, none⟩)), (56, .bool true)]) (by kernel_rfl) ?_
        refine QP.dropAt 0 ?_
        refine QP.pick [1, 56] ?_
        exact QP.meet ⟨_, Option.some.inj h, rfl, rfl, rfl⟩
      · replace hc := (Bool.eq_false_iff.1 hc)
        rw [if_neg hc] at h
        have hc9 := hc
        clear hc
        refine WL.pure 3 4 [1, 3, 5, 6, 21, 22] (L' := [(1, .pointer (some ⟨b1, 0, none⟩)), (3, .pointer (some ⟨b6, 0, none⟩)), (5, .int .i64 (a0.f2.length : Int)), (6, .int .i64 (a0.f3.length : Int)), (21, .bool false), (22, .pointer (some ⟨b1, 1, none⟩))]) (by kernel_rfl) (by decide) ?_
        refine WL.tell (op := .load 3 (.tmp 22)) (ty := 3) (d := some 23) (g := some (2, false)) (by kernel_rfl) (by kernel_rfl) (by kernel_rfl) (Tells.load_box (i := 1) (b := b1) (o := 1) (agg := false) (by rfl) ag3 (by kernel_rfl) (fun _ => rfl) (Nat.le_of_ble_eq_true rfl) (v := .int .i64 a0.f1) (by kernel_rfl)) ?_
        refine WL.pure 5 8 [1, 3, 5, 6, 26] (L' := [(1, .pointer (some ⟨b1, 0, none⟩)), (3, .pointer (some ⟨b6, 0, none⟩)), (5, .int .i64 (a0.f2.length : Int)), (6, .int .i64 (a0.f3.length : Int)), (26, .bool (decide (a0.f1 < 0)))]) (by kernel_rfl) (by decide) ?_
        refine WL.split 26 (b := decide (a0.f1 < 0)) (by kernel_rfl) (fun hc => ?_) (fun hc => ?_)
        · replace hc := of_decide_eq_true hc
          rw [if_pos hc] at h
          have hc10 := hc
          clear hc
          refine WL.rest 8 [1, 56] (L' := [(1, .pointer (some ⟨b1, 0, none⟩)), (56, .bool true)]) (by kernel_rfl) ?_
          refine QP.dropAt 0 ?_
          refine QP.pick [1, 56] ?_
          exact QP.meet ⟨_, Option.some.inj h, rfl, rfl, rfl⟩
        · replace hc := of_decide_eq_false hc
          rw [if_neg hc] at h
          have hc10 := hc
          clear hc
          refine WL.pure 8 9 [1, 3, 5, 6, 26, 27] (L' := [(1, .pointer (some ⟨b1, 0, none⟩)), (3, .pointer (some ⟨b6, 0, none⟩)), (5, .int .i64 (a0.f2.length : Int)), (6, .int .i64 (a0.f3.length : Int)), (26, .bool false), (27, .pointer (some ⟨b1, 1, none⟩))]) (by kernel_rfl) (by decide) ?_
          refine WL.tell (op := .load 3 (.tmp 27)) (ty := 3) (d := some 28) (g := some (7, false)) (by kernel_rfl) (by kernel_rfl) (by kernel_rfl) (Tells.load_box (i := 1) (b := b1) (o := 1) (agg := false) (by rfl) ag3 (by kernel_rfl) (fun _ => rfl) (Nat.le_of_ble_eq_true rfl) (v := .int .i64 a0.f1) (by kernel_rfl)) ?_
          refine WL.pure 10 11 [1, 3, 5, 6, 26, 28, 29] (L' := [(1, .pointer (some ⟨b1, 0, none⟩)), (3, .pointer (some ⟨b6, 0, none⟩)), (5, .int .i64 (a0.f2.length : Int)), (6, .int .i64 (a0.f3.length : Int)), (26, .bool false), (28, .int .i64 a0.f1), (29, .pointer (some ⟨b6, 4, none⟩))]) (by kernel_rfl) (by decide) ?_
          refine WL.tell (op := .load 3 (.tmp 29)) (ty := 3) (d := some 30) (g := some (7, false)) (by kernel_rfl) (by kernel_rfl) (by kernel_rfl) (Tells.load_box (i := 0) (b := b6) (o := 4) (agg := false) (by rfl) ag3 (by kernel_rfl) (fun _ => rfl) (Nat.le_of_ble_eq_true rfl) (v := .int .i64 t2.1.f4) (by kernel_rfl)) ?_
          refine WL.pure 12 15 [1, 3, 5, 6, 33] (L' := [(1, .pointer (some ⟨b1, 0, none⟩)), (3, .pointer (some ⟨b6, 0, none⟩)), (5, .int .i64 (a0.f2.length : Int)), (6, .int .i64 (a0.f3.length : Int)), (33, .bool (decide (a0.f1 > t2.1.f4)))]) (by kernel_rfl) (by decide) ?_
          refine WL.split 33 (b := decide (a0.f1 > t2.1.f4)) (by kernel_rfl) (fun hc => ?_) (fun hc => ?_)
          · replace hc := of_decide_eq_true hc
            rw [if_pos hc] at h
            have hc11 := hc
            clear hc
            refine WL.rest 15 [1, 56] (L' := [(1, .pointer (some ⟨b1, 0, none⟩)), (56, .bool true)]) (by kernel_rfl) ?_
            refine QP.dropAt 0 ?_
            refine QP.pick [1, 56] ?_
            exact QP.meet ⟨_, Option.some.inj h, rfl, rfl, rfl⟩
          · replace hc := of_decide_eq_false hc
            rw [if_neg hc] at h
            have hc11 := hc
            clear hc
            refine WL.pure 15 17 [1, 3, 5, 6, 33, 34, 35] (L' := [(1, .pointer (some ⟨b1, 0, none⟩)), (3, .pointer (some ⟨b6, 0, none⟩)), (5, .int .i64 (a0.f2.length : Int)), (6, .int .i64 (a0.f3.length : Int)), (33, .bool false), (34, .int .i64 (a0.f2.length : Int)), (35, .pointer (some ⟨b6, 0, none⟩))]) (by kernel_rfl) (by decide) ?_
            refine WL.tell (op := .load 3 (.tmp 35)) (ty := 3) (d := some 36) (g := some (14, false)) (by kernel_rfl) (by kernel_rfl) (by kernel_rfl) (Tells.load_box (i := 0) (b := b6) (o := 0) (agg := false) (by rfl) ag3 (by kernel_rfl) (fun _ => rfl) (Nat.le_of_ble_eq_true rfl) (v := .int .i64 t2.1.f0) (by kernel_rfl)) ?_
            refine WL.pure 18 21 [1, 3, 5, 6, 39] (L' := [(1, .pointer (some ⟨b1, 0, none⟩)), (3, .pointer (some ⟨b6, 0, none⟩)), (5, .int .i64 (a0.f2.length : Int)), (6, .int .i64 (a0.f3.length : Int)), (39, .bool (decide ((a0.f2.length : Int) < t2.1.f0)))]) (by kernel_rfl) (by decide) ?_
            refine WL.split 39 (b := decide ((a0.f2.length : Int) < t2.1.f0)) (by kernel_rfl) (fun hc => ?_) (fun hc => ?_)
            · replace hc := of_decide_eq_true hc
              rw [if_pos hc] at h
              have hc12 := hc
              clear hc
              refine WL.rest 21 [1, 56] (L' := [(1, .pointer (some ⟨b1, 0, none⟩)), (56, .bool true)]) (by kernel_rfl) ?_
              refine QP.dropAt 0 ?_
              refine QP.pick [1, 56] ?_
              exact QP.meet ⟨_, Option.some.inj h, rfl, rfl, rfl⟩
            · replace hc := of_decide_eq_false hc
              rw [if_neg hc] at h
              have hc12 := hc
              clear hc
              refine WL.pure 21 23 [1, 3, 6, 39, 40, 41] (L' := [(1, .pointer (some ⟨b1, 0, none⟩)), (3, .pointer (some ⟨b6, 0, none⟩)), (6, .int .i64 (a0.f3.length : Int)), (39, .bool false), (40, .int .i64 (a0.f2.length : Int)), (41, .pointer (some ⟨b6, 1, none⟩))]) (by kernel_rfl) (by decide) ?_
              refine WL.tell (op := .load 3 (.tmp 41)) (ty := 3) (d := some 42) (g := some (20, false)) (by kernel_rfl) (by kernel_rfl) (by kernel_rfl) (Tells.load_box (i := 0) (b := b6) (o := 1) (agg := false) (by rfl) ag3 (by kernel_rfl) (fun _ => rfl) (Nat.le_of_ble_eq_true rfl) (v := .int .i64 t2.1.f1) (by kernel_rfl)) ?_
              refine WL.pure 24 27 [1, 3, 6, 45] (L' := [(1, .pointer (some ⟨b1, 0, none⟩)), (3, .pointer (some ⟨b6, 0, none⟩)), (6, .int .i64 (a0.f3.length : Int)), (45, .bool (decide ((a0.f2.length : Int) > t2.1.f1)))]) (by kernel_rfl) (by decide) ?_
              refine WL.split 45 (b := decide ((a0.f2.length : Int) > t2.1.f1)) (by kernel_rfl) (fun hc => ?_) (fun hc => ?_)
              · replace hc := of_decide_eq_true hc
                rw [if_pos hc] at h
                have hc13 := hc
                clear hc
                refine WL.rest 27 [1, 56] (L' := [(1, .pointer (some ⟨b1, 0, none⟩)), (56, .bool true)]) (by kernel_rfl) ?_
                refine QP.dropAt 0 ?_
                refine QP.pick [1, 56] ?_
                exact QP.meet ⟨_, Option.some.inj h, rfl, rfl, rfl⟩
              · replace hc := of_decide_eq_false hc
                rw [if_neg hc] at h
                have hc13 := hc
                clear hc
                refine WL.pure 27 29 [1, 3, 6, 45, 46, 47] (L' := [(1, .pointer (some ⟨b1, 0, none⟩)), (3, .pointer (some ⟨b6, 0, none⟩)), (6, .int .i64 (a0.f3.length : Int)), (45, .bool false), (46, .int .i64 (a0.f3.length : Int)), (47, .pointer (some ⟨b6, 2, none⟩))]) (by kernel_rfl) (by decide) ?_
                refine WL.tell (op := .load 3 (.tmp 47)) (ty := 3) (d := some 48) (g := some (26, false)) (by kernel_rfl) (by kernel_rfl) (by kernel_rfl) (Tells.load_box (i := 0) (b := b6) (o := 2) (agg := false) (by rfl) ag3 (by kernel_rfl) (fun _ => rfl) (Nat.le_of_ble_eq_true rfl) (v := .int .i64 t2.1.f2) (by kernel_rfl)) ?_
                refine WL.pure 30 33 [1, 3, 6, 51] (L' := [(1, .pointer (some ⟨b1, 0, none⟩)), (3, .pointer (some ⟨b6, 0, none⟩)), (6, .int .i64 (a0.f3.length : Int)), (51, .bool (decide ((a0.f3.length : Int) < t2.1.f2)))]) (by kernel_rfl) (by decide) ?_
                refine WL.split 51 (b := decide ((a0.f3.length : Int) < t2.1.f2)) (by kernel_rfl) (fun hc => ?_) (fun hc => ?_)
                · replace hc := of_decide_eq_true hc
                  rw [if_pos hc] at h
                  have hc14 := hc
                  clear hc
                  refine WL.rest 33 [1, 56] (L' := [(1, .pointer (some ⟨b1, 0, none⟩)), (56, .bool true)]) (by kernel_rfl) ?_
                  refine QP.dropAt 0 ?_
                  refine QP.pick [1, 56] ?_
                  exact QP.meet ⟨_, Option.some.inj h, rfl, rfl, rfl⟩
                · replace hc := of_decide_eq_false hc
                  rw [if_neg hc] at h
                  have hc14 := hc
                  clear hc
                  refine WL.pure 33 35 [1, 51, 52, 53] (L' := [(1, .pointer (some ⟨b1, 0, none⟩)), (51, .bool false), (52, .int .i64 (a0.f3.length : Int)), (53, .pointer (some ⟨b6, 3, none⟩))]) (by kernel_rfl) (by decide) ?_
                  refine WL.tell (op := .load 3 (.tmp 53)) (ty := 3) (d := some 54) (g := some (32, false)) (by kernel_rfl) (by kernel_rfl) (by kernel_rfl) (Tells.load_box (i := 0) (b := b6) (o := 3) (agg := false) (by rfl) ag3 (by kernel_rfl) (fun _ => rfl) (Nat.le_of_ble_eq_true rfl) (v := .int .i64 t2.1.f3) (by kernel_rfl)) ?_
                  refine WL.rest 36 [1, 56] (L' := [(1, .pointer (some ⟨b1, 0, none⟩)), (56, .bool (decide ((a0.f3.length : Int) > t2.1.f3)))]) (by kernel_rfl) ?_
                  refine QP.dropAt 0 ?_
                  refine QP.pick [1, 56] ?_
                  exact QP.meet ⟨_, Option.some.inj h, rfl, rfl, rfl⟩
    · rintro _ _ _ ⟨s7, rfl, rfl, rfl, rfl⟩
      clear h
      replace h := hk8
      refine WP.cond (b := s7) (by kernel_rfl) (fun hc => ?_) (fun hc => ?_)
      · replace hc := hc
        rw [if_pos hc] at h
        have hc15 := hc
        clear hc
        refine WP.seqP [2] (L' := [(2, .bool false)]) (by kernel_rfl) ?_
        refine WP.dropAt 0 ?_
        refine WP.ret ?_
        refine QP.thenR ?_
        obtain rfl := Option.some.inj h
        exact QP.returned [2] [.bool false] _ (by kernel_rfl) (by kernel_rfl) (by kernel_rfl) (fun W hI => ⟨_, _, _, rfl, ⟨rfl, rfl, rfl⟩, hI⟩)
      · replace hc := (Bool.eq_false_iff.1 hc)
        rw [if_neg hc] at h
        have hc15 := hc
        clear hc
        refine WP.skip ?_
        refine QP.next ?_
        refine WP.pick [1] ?_
        rw [Option.bind_eq_some_iff] at h
        obtain ⟨os16, h, hk17⟩ := h
        refine WP.cut (fun L' G' Γ' => ∃ s16 : Bool, s16 = os16 ∧ L' = [(2, .bool s16)] ∧ G = G' ∧ Γ = Γ') ?_ ?_
        · clear hk17
          refine WP.region ?_
          refine WL.pure 0 1 [1, 57] (L' := [(1, .pointer (some ⟨b1, 0, none⟩)), (57, .pointer (some ⟨b1, 2, none⟩))]) (by kernel_rfl) (by decide) ?_
          refine WL.tell (op := .load 22 (.tmp 57)) (ty := 22) (d := some 58) (g := none) (by kernel_rfl) (by kernel_rfl) (by kernel_rfl) (Tells.load_box (i := 0) (b := b1) (o := 2) (agg := false) (by rfl) ag22 (by kernel_rfl) (fun _ => rfl) (Nat.le_of_ble_eq_true rfl) (v := .slice Aa0_f2 a0.f2.length ca0_f2) (by kernel_rfl)) ?_
          rw [Option.bind_eq_some_iff] at h
          obtain ⟨t18, ht19, h⟩ := h
          refine WL.op (op := .call { callee := (.value (.func 61)), args := #[(.tmp 58), (.func 62)], argTypes := #[22, 63] }) (ty := 4) (d := some 59) (g := none) (by kernel_rfl) (by kernel_rfl) (by kernel_rfl) (Does.call (f := 61) (args := [.slice Aa0_f2 a0.f2.length ca0_f2, .func (.func 62) #[] #[]]) (by kernel_rfl) (fun W hI => (slices_ContainsFunc_calls HT kf a0.f2 Aa0_f2 ca0_f2 Ha0_f2 t18 ht19 hI))) ?_
          rintro _ _ _ ⟨rfl, rfl, rfl⟩
          refine WL.pure 3 5 [1, 61] (L' := [(1, .pointer (some ⟨b1, 0, none⟩)), (61, .bool (!t18))]) (by kernel_rfl) (by decide) ?_
          refine WL.split 61 (b := (!t18)) (by kernel_rfl) (fun hc => ?_) (fun hc => ?_)
          · replace hc := hc
            rw [if_pos hc] at h
            have hc22 := hc
            clear hc
            refine WL.pure 5 6 [61, 62] (L' := [(61, .bool true), (62, .pointer (some ⟨b1, 3, none⟩))]) (by kernel_rfl) (by decide) ?_
            refine WL.tell (op := .load 23 (.tmp 62)) (ty := 23) (d := some 63) (g := some (4, true)) (by kernel_rfl) (by kernel_rfl) (by kernel_rfl) (Tells.load_box (i := 0) (b := b1) (o := 3) (agg := false) (by rfl) ag23 (by kernel_rfl) (fun _ => rfl) (Nat.le_of_ble_eq_true rfl) (v := .slice Aa0_f3 a0.f3.length ca0_f3) (by kernel_rfl)) ?_
            rw [Option.bind_eq_some_iff] at h
            obtain ⟨t23, ht24, h⟩ := h
            refine WL.op (op := .call { callee := (.value (.func 49)), args := #[(.tmp 63), (.func 63)], argTypes := #[23, 33] }) (ty := 4) (d := some 64) (g := some (4, true)) (by kernel_rfl) (by kernel_rfl) (by kernel_rfl) (Does.call (f := 49) (args := [.slice Aa0_f3 a0.f3.length ca0_f3, .func (.func 63) #[] #[]]) (by kernel_rfl) (fun W hI => (slices_ContainsFunc_24_calls HT (ask_good kf) ih kf a0.f3 Aa0_f3 ca0_f3 Ha0_f3 t23 ht24 hI))) ?_
            rintro _ _ _ ⟨rfl, rfl, rfl⟩
            refine WL.rest 8 [2] (L' := [(2, .bool (!t23))]) (by kernel_rfl) ?_
            refine QP.dropAt 0 ?_
            refine QP.pick [2] ?_
            exact QP.meet ⟨_, Option.some.inj h, rfl, rfl, rfl⟩
          · replace hc := (Bool.eq_false_iff.1 hc)
            rw [if_neg hc] at h
            have hc22 := hc
            clear hc
            refine WL.rest 5 [2] (L' := [(2, .bool false)]) (by kernel_rfl) ?_
            refine QP.dropAt 0 ?_
            refine QP.pick [2] ?_
            exact QP.meet ⟨_, Option.some.inj h, rfl, rfl, rfl⟩
        · rintro _ _ _ ⟨s16, rfl, rfl, rfl, rfl⟩
          clear h
          replace h := hk17
          refine WP.ret ?_
          obtain rfl := Option.some.inj h
          exact QP.returned [2] [.bool s16] _ (by kernel_rfl) (by kernel_rfl) (by kernel_rfl) (fun W hI => ⟨_, _, _, rfl, ⟨rfl, rfl, rfl⟩, hI⟩)
theorem ask_good_calls {B : World} {G : GMap} {Γ : List Chunk} {W : World} (HT : Tabs B G) (k : Nat) (a0 : T25) (Aa0_f2 : Option Addr) (ca0_f2 : Nat) (Ha0_f2 : Rd kStr G Aa0_f2 ca0_f2 a0.f2) (Aa0_f3 : Option Addr) (ca0_f3 : Nat) (Ha0_f3 : Rd k25 G Aa0_f3 ca0_f3 a0.f3) (r : Bool) (h : ask_good k a0 = some r) (hI : Inv B G (Γ) W) :
    Calls Tryd.prog 34 [.agg #[.int .i64 a0.f0, .int .i64 a0.f1, .slice Aa0_f2 a0.f2.length ca0_f2, .slice Aa0_f3 a0.f3.length ca0_f3]].toArray W (Ret B (fun v G' Γ' => v = .bool r ∧ G = G' ∧ Γ = Γ')) := ask_good_calls_k k HT a0 Aa0_f2 ca0_f2 Ha0_f2 Aa0_f3 ca0_f3 Ha0_f3 r h hI

/-! ### grapevine/ask.May: function 16 -/
def ask_May (k : Nat) (a0 : T25) : Option Bool := (((ask_Deep k a0).bind fun t4 => (if t4 ≤ 6 then ((ask_Terms k a0).bind fun t9 => (if t9 ≤ 16 then ((ask_good k a0).bind fun t14 => some t14) else some false)) else some false)).bind fun s2 => some s2)
set_option maxHeartbeats 4000000 in
theorem ask_May_calls {B : World} {G : GMap} {Γ : List Chunk} {W : World} (HT : Tabs B G) (k : Nat) (a0 : T25) (Aa0_f2 : Option Addr) (ca0_f2 : Nat) (Ha0_f2 : Rd kStr G Aa0_f2 ca0_f2 a0.f2) (Aa0_f3 : Option Addr) (ca0_f3 : Nat) (Ha0_f3 : Rd k25 G Aa0_f3 ca0_f3 a0.f3) (r : Bool) (h : ask_May k a0 = some r) (hI : Inv B G (Γ) W) :
    Calls Tryd.prog 16 [.agg #[.int .i64 a0.f0, .int .i64 a0.f1, .slice Aa0_f2 a0.f2.length ca0_f2, .slice Aa0_f3 a0.f3.length ca0_f3]].toArray W (Ret B (fun v G' Γ' => v = .bool r ∧ G = G' ∧ Γ = Γ')) := by
  refine calls_WP (Γ := Γ) (G := G) (B := B) Tryd.func16 rfl (by kernel_rfl) ?_ hI
  clear hI
  unfold ask_May at h
  refine WP.seqR ?_
  refine WL.op (op := .box 25 (.tmp 0)) (ty := 0) (d := some 1) (g := none) (by kernel_rfl) (by kernel_rfl) (by kernel_rfl) (Does.new (o := .cells #[.int .i64 a0.f0, .int .i64 a0.f1, .slice Aa0_f2 a0.f2.length ca0_f2, .slice Aa0_f3 a0.f3.length ca0_f3] 25 (0, 0)) (v := fun r => .pointer (some ⟨r, 0, none⟩)) (fun r => by kernel_rfl)) ?_
  rintro _ _ _ ⟨b1, rfl, rfl, rfl⟩
  refine WL.restQ 1 [1] (L' := [(1, .pointer (some ⟨b1, 0, none⟩))]) (by kernel_rfl) ?_
  rw [Option.bind_eq_some_iff] at h
  obtain ⟨os2, h, hk3⟩ := h
  refine WP.cut (fun L' G' Γ' => ∃ s2 : Bool, s2 = os2 ∧ L' = [(2, .bool s2)] ∧ G = G' ∧ Γ = Γ') ?_ ?_
  · clear hk3
    refine WP.region ?_
    refine WL.tell (op := .load 25 (.tmp 1)) (ty := 25) (d := some 3) (g := none) (by kernel_rfl) (by kernel_rfl) (by kernel_rfl) (Tells.load_box (i := 0) (b := b1) (o := 0) (agg := true) (by rfl) ag25 (by kernel_rfl) (fun h => by cases h) (Nat.le_of_ble_eq_true rfl) (v := .agg #[.int .i64 a0.f0, .int .i64 a0.f1, .slice Aa0_f2 a0.f2.length ca0_f2, .slice Aa0_f3 a0.f3.length ca0_f3]) (by kernel_rfl)) ?_
    rw [Option.bind_eq_some_iff] at h
    obtain ⟨t4, ht5, h⟩ := h
    refine WL.op (op := .call { callee := (.value (.func 32)), args := #[(.tmp 3)], argTypes := #[25] }) (ty := 3) (d := some 4) (g := none) (by kernel_rfl) (by kernel_rfl) (by kernel_rfl) (Does.call (f := 32) (args := [.agg #[.int .i64 a0.f0, .int .i64 a0.f1, .slice Aa0_f2 a0.f2.length ca0_f2, .slice Aa0_f3 a0.f3.length ca0_f3]]) (by kernel_rfl) (fun W hI => (ask_Deep_calls k a0 Aa0_f2 ca0_f2 Ha0_f2 Aa0_f3 ca0_f3 Ha0_f3 t4 ht5 hI))) ?_
    rintro _ _ _ ⟨rfl, rfl, rfl⟩
    refine WL.pure 2 4 [1, 6] (L' := [(1, .pointer (some ⟨b1, 0, none⟩)), (6, .bool (decide (t4 ≤ 6)))]) (by kernel_rfl) (by decide) ?_
    refine WL.split 6 (b := decide (t4 ≤ 6)) (by kernel_rfl) (fun hc => ?_) (fun hc => ?_)
    · replace hc := of_decide_eq_true hc
      rw [if_pos hc] at h
      have hc8 := hc
      clear hc
      refine WL.tell (op := .load 25 (.tmp 1)) (ty := 25) (d := some 7) (g := some (3, true)) (by kernel_rfl) (by kernel_rfl) (by kernel_rfl) (Tells.load_box (i := 0) (b := b1) (o := 0) (agg := true) (by rfl) ag25 (by kernel_rfl) (fun h => by cases h) (Nat.le_of_ble_eq_true rfl) (v := .agg #[.int .i64 a0.f0, .int .i64 a0.f1, .slice Aa0_f2 a0.f2.length ca0_f2, .slice Aa0_f3 a0.f3.length ca0_f3]) (by kernel_rfl)) ?_
      rw [Option.bind_eq_some_iff] at h
      obtain ⟨t9, ht10, h⟩ := h
      refine WL.op (op := .call { callee := (.value (.func 33)), args := #[(.tmp 7)], argTypes := #[25] }) (ty := 3) (d := some 8) (g := some (3, true)) (by kernel_rfl) (by kernel_rfl) (by kernel_rfl) (Does.call (f := 33) (args := [.agg #[.int .i64 a0.f0, .int .i64 a0.f1, .slice Aa0_f2 a0.f2.length ca0_f2, .slice Aa0_f3 a0.f3.length ca0_f3]]) (by kernel_rfl) (fun W hI => (ask_Terms_calls k a0 Aa0_f2 ca0_f2 Ha0_f2 Aa0_f3 ca0_f3 Ha0_f3 t9 ht10 hI))) ?_
      rintro _ _ _ ⟨rfl, rfl, rfl⟩
      refine WL.pure 6 9 [1, 11] (L' := [(1, .pointer (some ⟨b1, 0, none⟩)), (11, .bool (decide (t9 ≤ 16)))]) (by kernel_rfl) (by decide) ?_
      refine WL.split 11 (b := decide (t9 ≤ 16)) (by kernel_rfl) (fun hc => ?_) (fun hc => ?_)
      · replace hc := of_decide_eq_true hc
        rw [if_pos hc] at h
        have hc13 := hc
        clear hc
        refine WL.tell (op := .load 25 (.tmp 1)) (ty := 25) (d := some 12) (g := some (8, true)) (by kernel_rfl) (by kernel_rfl) (by kernel_rfl) (Tells.load_box (i := 0) (b := b1) (o := 0) (agg := true) (by rfl) ag25 (by kernel_rfl) (fun h => by cases h) (Nat.le_of_ble_eq_true rfl) (v := .agg #[.int .i64 a0.f0, .int .i64 a0.f1, .slice Aa0_f2 a0.f2.length ca0_f2, .slice Aa0_f3 a0.f3.length ca0_f3]) (by kernel_rfl)) ?_
        rw [Option.bind_eq_some_iff] at h
        obtain ⟨t14, ht15, h⟩ := h
        refine WL.op (op := .call { callee := (.value (.func 34)), args := #[(.tmp 12)], argTypes := #[25] }) (ty := 4) (d := some 13) (g := some (8, true)) (by kernel_rfl) (by kernel_rfl) (by kernel_rfl) (Does.call (f := 34) (args := [.agg #[.int .i64 a0.f0, .int .i64 a0.f1, .slice Aa0_f2 a0.f2.length ca0_f2, .slice Aa0_f3 a0.f3.length ca0_f3]]) (by kernel_rfl) (fun W hI => (ask_good_calls HT k a0 Aa0_f2 ca0_f2 Ha0_f2 Aa0_f3 ca0_f3 Ha0_f3 t14 ht15 hI))) ?_
        rintro _ _ _ ⟨rfl, rfl, rfl⟩
        refine WL.rest 11 [2] (L' := [(2, .bool t14)]) (by kernel_rfl) ?_
        refine QP.dropAt 0 ?_
        refine QP.pick [2] ?_
        exact QP.meet ⟨_, Option.some.inj h, rfl, rfl, rfl⟩
      · replace hc := of_decide_eq_false hc
        rw [if_neg hc] at h
        have hc13 := hc
        clear hc
        refine WL.rest 9 [2] (L' := [(2, .bool false)]) (by kernel_rfl) ?_
        refine QP.dropAt 0 ?_
        refine QP.pick [2] ?_
        exact QP.meet ⟨_, Option.some.inj h, rfl, rfl, rfl⟩
    · replace hc := of_decide_eq_false hc
      rw [if_neg hc] at h
      have hc8 := hc
      clear hc
      refine WL.rest 4 [2] (L' := [(2, .bool false)]) (by kernel_rfl) ?_
      refine QP.dropAt 0 ?_
      refine QP.pick [2] ?_
      exact QP.meet ⟨_, Option.some.inj h, rfl, rfl, rfl⟩
  · rintro _ _ _ ⟨s2, rfl, rfl, rfl, rfl⟩
    clear h
    replace h := hk3
    refine WP.ret ?_
    obtain rfl := Option.some.inj h
    exact QP.returned [2] [.bool s2] _ (by kernel_rfl) (by kernel_rfl) (by kernel_rfl) (fun W hI => ⟨_, _, _, rfl, ⟨rfl, rfl, rfl⟩, hI⟩)

/-! ### grapevine/stamp.wall: function 64 -/
def stamp_wall (a0 : Int) : Option Bool := ((if a0 ≥ 0 then some (decide (a0 ≤ 1099511627776)) else some false).bind fun s1 => some s1)
set_option maxHeartbeats 4000000 in
theorem stamp_wall_calls {B : World} {G : GMap} {Γ : List Chunk} {W : World} (a0 : Int) (r : Bool) (h : stamp_wall a0 = some r) (hI : Inv B G (Γ) W) :
    Calls Tryd.prog 64 [.int .i64 a0].toArray W (Ret B (fun v G' Γ' => v = .bool r ∧ G = G' ∧ Γ = Γ')) := by
  refine calls_WP (Γ := Γ) (G := G) (B := B) Tryd.func64 rfl (by kernel_rfl) ?_ hI
  clear hI
  unfold stamp_wall at h
  refine WP.seqP [0] (L' := [(0, .int .i64 a0)]) (by kernel_rfl) ?_
  rw [Option.bind_eq_some_iff] at h
  obtain ⟨os1, h, hk2⟩ := h
  refine WP.cut (fun L' G' Γ' => ∃ s1 : Bool, s1 = os1 ∧ L' = [(2, .bool s1)] ∧ G = G' ∧ Γ = Γ') ?_ ?_
  · clear hk2
    refine WP.region ?_
    refine WL.pure 0 3 [0, 5] (L' := [(0, .int .i64 a0), (5, .bool (decide (a0 ≥ 0)))]) (by kernel_rfl) (by decide) ?_
    refine WL.split 5 (b := decide (a0 ≥ 0)) (by kernel_rfl) (fun hc => ?_) (fun hc => ?_)
    · replace hc := of_decide_eq_true hc
      rw [if_pos hc] at h
      have hc3 := hc
      clear hc
      refine WL.rest 3 [2] (L' := [(2, .bool (decide (a0 ≤ 1099511627776)))]) (by kernel_rfl) ?_
      refine QP.pick [2] ?_
      exact QP.meet ⟨_, Option.some.inj h, rfl, rfl, rfl⟩
    · replace hc := of_decide_eq_false hc
      rw [if_neg hc] at h
      have hc3 := hc
      clear hc
      refine WL.rest 3 [2] (L' := [(2, .bool false)]) (by kernel_rfl) ?_
      refine QP.pick [2] ?_
      exact QP.meet ⟨_, Option.some.inj h, rfl, rfl, rfl⟩
  · rintro _ _ _ ⟨s1, rfl, rfl, rfl, rfl⟩
    clear h
    replace h := hk2
    refine WP.ret ?_
    obtain rfl := Option.some.inj h
    exact QP.returned [2] [.bool s1] _ (by kernel_rfl) (by kernel_rfl) (by kernel_rfl) (fun W hI => ⟨_, _, _, rfl, ⟨rfl, rfl, rfl⟩, hI⟩)

/-! ### grapevine/stamp.May: function 35 -/
def stamp_May (a0 : T29) : Option Bool := (((stamp_wall a0.f0).bind fun t4 => (if t4 = true then (if a0.f1 ≥ 0 then some (decide (a0.f1 ≤ 65535)) else some false) else some false)).bind fun s2 => some s2)
set_option maxHeartbeats 4000000 in
theorem stamp_May_calls {B : World} {G : GMap} {Γ : List Chunk} {W : World} (a0 : T29) (r : Bool) (h : stamp_May a0 = some r) (hI : Inv B G (Γ) W) :
    Calls Tryd.prog 35 [.agg #[.int .i64 a0.f0, .int .i64 a0.f1]].toArray W (Ret B (fun v G' Γ' => v = .bool r ∧ G = G' ∧ Γ = Γ')) := by
  refine calls_WP (Γ := Γ) (G := G) (B := B) Tryd.func35 rfl (by kernel_rfl) ?_ hI
  clear hI
  unfold stamp_May at h
  refine WP.seqR ?_
  refine WL.op (op := .box 29 (.tmp 0)) (ty := 0) (d := some 1) (g := none) (by kernel_rfl) (by kernel_rfl) (by kernel_rfl) (Does.new (o := .cells #[.int .i64 a0.f0, .int .i64 a0.f1] 29 (0, 0)) (v := fun r => .pointer (some ⟨r, 0, none⟩)) (fun r => by kernel_rfl)) ?_
  rintro _ _ _ ⟨b1, rfl, rfl, rfl⟩
  refine WL.restQ 1 [1] (L' := [(1, .pointer (some ⟨b1, 0, none⟩))]) (by kernel_rfl) ?_
  rw [Option.bind_eq_some_iff] at h
  obtain ⟨os2, h, hk3⟩ := h
  refine WP.cut (fun L' G' Γ' => ∃ s2 : Bool, s2 = os2 ∧ L' = [(2, .bool s2)] ∧ G = G' ∧ Γ = Γ') ?_ ?_
  · clear hk3
    refine WP.region ?_
    refine WL.pure 0 1 [1, 3] (L' := [(1, .pointer (some ⟨b1, 0, none⟩)), (3, .pointer (some ⟨b1, 0, none⟩))]) (by kernel_rfl) (by decide) ?_
    refine WL.tell (op := .load 3 (.tmp 3)) (ty := 3) (d := some 4) (g := none) (by kernel_rfl) (by kernel_rfl) (by kernel_rfl) (Tells.load_box (i := 0) (b := b1) (o := 0) (agg := false) (by rfl) ag3 (by kernel_rfl) (fun _ => rfl) (Nat.le_of_ble_eq_true rfl) (v := .int .i64 a0.f0) (by kernel_rfl)) ?_
    rw [Option.bind_eq_some_iff] at h
    obtain ⟨t4, ht5, h⟩ := h
    refine WL.op (op := .call { callee := (.value (.func 64)), args := #[(.tmp 4)], argTypes := #[3] }) (ty := 4) (d := some 5) (g := none) (by kernel_rfl) (by kernel_rfl) (by kernel_rfl) (Does.call (f := 64) (args := [.int .i64 a0.f0]) (by kernel_rfl) (fun W hI => (stamp_wall_calls a0.f0  t4 ht5 hI))) ?_
    rintro _ _ _ ⟨rfl, rfl, rfl⟩
    refine WL.pure 3 4 [1, 6] (L' := [(1, .pointer (some ⟨b1, 0, none⟩)), (6, .bool t4)]) (by kernel_rfl) (by decide) ?_
    refine WL.split 6 (b := t4) (by kernel_rfl) (fun hc => ?_) (fun hc => ?_)
    · replace hc := hc
      rw [if_pos hc] at h
      have hc8 := hc
      clear hc
      refine WL.pure 4 5 [1, 6, 7] (L' := [(1, .pointer (some ⟨b1, 0, none⟩)), (6, .bool true), (7, .pointer (some ⟨b1, 1, none⟩))]) (by kernel_rfl) (by decide) ?_
      refine WL.tell (op := .load 3 (.tmp 7)) (ty := 3) (d := some 8) (g := some (3, true)) (by kernel_rfl) (by kernel_rfl) (by kernel_rfl) (Tells.load_box (i := 0) (b := b1) (o := 1) (agg := false) (by rfl) ag3 (by kernel_rfl) (fun _ => rfl) (Nat.le_of_ble_eq_true rfl) (v := .int .i64 a0.f1) (by kernel_rfl)) ?_
      refine WL.pure 6 9 [1, 11] (L' := [(1, .pointer (some ⟨b1, 0, none⟩)), (11, .bool (decide (a0.f1 ≥ 0)))]) (by kernel_rfl) (by decide) ?_
      refine WL.split 11 (b := decide (a0.f1 ≥ 0)) (by kernel_rfl) (fun hc => ?_) (fun hc => ?_)
      · replace hc := of_decide_eq_true hc
        rw [if_pos hc] at h
        have hc9 := hc
        clear hc
        refine WL.pure 9 10 [11, 12] (L' := [(11, .bool true), (12, .pointer (some ⟨b1, 1, none⟩))]) (by kernel_rfl) (by decide) ?_
        refine WL.tell (op := .load 3 (.tmp 12)) (ty := 3) (d := some 13) (g := some (8, true)) (by kernel_rfl) (by kernel_rfl) (by kernel_rfl) (Tells.load_box (i := 0) (b := b1) (o := 1) (agg := false) (by rfl) ag3 (by kernel_rfl) (fun _ => rfl) (Nat.le_of_ble_eq_true rfl) (v := .int .i64 a0.f1) (by kernel_rfl)) ?_
        refine WL.rest 11 [2] (L' := [(2, .bool (decide (a0.f1 ≤ 65535)))]) (by kernel_rfl) ?_
        refine QP.dropAt 0 ?_
        refine QP.pick [2] ?_
        exact QP.meet ⟨_, Option.some.inj h, rfl, rfl, rfl⟩
      · replace hc := of_decide_eq_false hc
        rw [if_neg hc] at h
        have hc9 := hc
        clear hc
        refine WL.rest 9 [2] (L' := [(2, .bool false)]) (by kernel_rfl) ?_
        refine QP.dropAt 0 ?_
        refine QP.pick [2] ?_
        exact QP.meet ⟨_, Option.some.inj h, rfl, rfl, rfl⟩
    · replace hc := (Bool.eq_false_iff.1 hc)
      rw [if_neg hc] at h
      have hc8 := hc
      clear hc
      refine WL.rest 4 [2] (L' := [(2, .bool false)]) (by kernel_rfl) ?_
      refine QP.dropAt 0 ?_
      refine QP.pick [2] ?_
      exact QP.meet ⟨_, Option.some.inj h, rfl, rfl, rfl⟩
  · rintro _ _ _ ⟨s2, rfl, rfl, rfl, rfl⟩
    clear h
    replace h := hk3
    refine WP.ret ?_
    obtain rfl := Option.some.inj h
    exact QP.returned [2] [.bool s2] _ (by kernel_rfl) (by kernel_rfl) (by kernel_rfl) (fun W hI => ⟨_, _, _, rfl, ⟨rfl, rfl, rfl⟩, hI⟩)

/-! ### grapevine/tokens.May: function 36 -/
def tokens_May (a0 : ByteArray) : Option Bool := ((if (a0.size : Int) ≤ 120 then ((utf8_ValidString a0).bind fun t4 => some t4) else some false).bind fun s1 => some s1)
set_option maxHeartbeats 4000000 in
theorem tokens_May_calls {B : World} {G : GMap} {Γ : List Chunk} {W : World} (HT : Tabs B G) (a0 : ByteArray) (r : Bool) (h : tokens_May a0 = some r) (hI : Inv B G (Γ) W) :
    Calls Tryd.prog 36 [.string a0].toArray W (Ret B (fun v G' Γ' => v = .bool r ∧ G = G' ∧ Γ = Γ')) := by
  refine calls_WP (Γ := Γ) (G := G) (B := B) Tryd.func36 rfl (by kernel_rfl) ?_ hI
  clear hI
  unfold tokens_May at h
  refine WP.seqP [0] (L' := [(0, .string a0)]) (by kernel_rfl) ?_
  rw [Option.bind_eq_some_iff] at h
  obtain ⟨os1, h, hk2⟩ := h
  refine WP.cut (fun L' G' Γ' => ∃ s1 : Bool, s1 = os1 ∧ L' = [(2, .bool s1)] ∧ G = G' ∧ Γ = Γ') ?_ ?_
  · clear hk2
    refine WP.region ?_
    refine WL.pure 0 4 [0, 6] (L' := [(0, .string a0), (6, .bool (decide ((a0.size : Int) ≤ 120)))]) (by kernel_rfl) (by decide) ?_
    refine WL.split 6 (b := decide ((a0.size : Int) ≤ 120)) (by kernel_rfl) (fun hc => ?_) (fun hc => ?_)
    · replace hc := of_decide_eq_true hc
      rw [if_pos hc] at h
      have hc3 := hc
      clear hc
      refine WL.pure 4 5 [6, 7] (L' := [(6, .bool true), (7, .string a0)]) (by kernel_rfl) (by decide) ?_
      rw [Option.bind_eq_some_iff] at h
      obtain ⟨t4, ht5, h⟩ := h
      refine WL.op (op := .call { callee := (.value (.func 65)), args := #[(.tmp 7)], argTypes := #[9] }) (ty := 4) (d := some 8) (g := some (3, true)) (by kernel_rfl) (by kernel_rfl) (by kernel_rfl) (Does.call (f := 65) (args := [.string a0]) (by kernel_rfl) (fun W hI => (utf8_ValidString_calls HT a0  t4 ht5 hI))) ?_
      rintro _ _ _ ⟨rfl, rfl, rfl⟩
      refine WL.rest 6 [2] (L' := [(2, .bool t4)]) (by kernel_rfl) ?_
      refine QP.pick [2] ?_
      exact QP.meet ⟨_, Option.some.inj h, rfl, rfl, rfl⟩
    · replace hc := of_decide_eq_false hc
      rw [if_neg hc] at h
      have hc3 := hc
      clear hc
      refine WL.rest 4 [2] (L' := [(2, .bool false)]) (by kernel_rfl) ?_
      refine QP.pick [2] ?_
      exact QP.meet ⟨_, Option.some.inj h, rfl, rfl, rfl⟩
  · rintro _ _ _ ⟨s1, rfl, rfl, rfl, rfl⟩
    clear h
    replace h := hk2
    refine WP.ret ?_
    obtain rfl := Option.some.inj h
    exact QP.returned [2] [.bool s1] _ (by kernel_rfl) (by kernel_rfl) (by kernel_rfl) (fun W hI => ⟨_, _, _, rfl, ⟨rfl, rfl, rfl⟩, hI⟩)

/-! ### grapevine/record.May: function 17 -/
def record_May (a0 : T31) : Option Bool := ((if a0.f0 ≥ 0 then (if a0.f0 < 8 then (if a0.f1 ≥ 1 then (if a0.f1 ≤ 1023 then ((stamp_May (⟨a0.f2, a0.f3⟩ : T29)).bind fun t8 => (if t8 = true then ((tokens_May a0.f4).bind fun t13 => some t13) else some false)) else some false) else some false) else some false) else some false).bind fun s2 => some s2)
set_option maxHeartbeats 4000000 in
theorem record_May_calls {B : World} {G : GMap} {Γ : List Chunk} {W : World} (HT : Tabs B G) (a0 : T31) (r : Bool) (h : record_May a0 = some r) (hI : Inv B G (Γ) W) :
    Calls Tryd.prog 17 [.agg #[.int .i64 a0.f0, .int .i64 a0.f1, .int .i64 a0.f2, .int .i64 a0.f3, .string a0.f4]].toArray W (Ret B (fun v G' Γ' => v = .bool r ∧ G = G' ∧ Γ = Γ')) := by
  refine calls_WP (Γ := Γ) (G := G) (B := B) Tryd.func17 rfl (by kernel_rfl) ?_ hI
  clear hI
  unfold record_May at h
  refine WP.seqR ?_
  refine WL.op (op := .box 31 (.tmp 0)) (ty := 0) (d := some 1) (g := none) (by kernel_rfl) (by kernel_rfl) (by kernel_rfl) (Does.new (o := .cells #[.int .i64 a0.f0, .int .i64 a0.f1, .int .i64 a0.f2, .int .i64 a0.f3, .string a0.f4] 31 (0, 0)) (v := fun r => .pointer (some ⟨r, 0, none⟩)) (fun r => by kernel_rfl)) ?_
  rintro _ _ _ ⟨b1, rfl, rfl, rfl⟩
  refine WL.restQ 1 [1] (L' := [(1, .pointer (some ⟨b1, 0, none⟩))]) (by kernel_rfl) ?_
  rw [Option.bind_eq_some_iff] at h
  obtain ⟨os2, h, hk3⟩ := h
  refine WP.cut (fun L' G' Γ' => ∃ s2 : Bool, s2 = os2 ∧ L' = [(2, .bool s2)] ∧ G = G' ∧ Γ = Γ') ?_ ?_
  · clear hk3
    refine WP.region ?_
    refine WL.pure 0 2 [1, 4] (L' := [(1, .pointer (some ⟨b1, 0, none⟩)), (4, .pointer (some ⟨b1, 0, none⟩))]) (by kernel_rfl) (by decide) ?_
    refine WL.tell (op := .load 3 (.tmp 4)) (ty := 3) (d := some 5) (g := none) (by kernel_rfl) (by kernel_rfl) (by kernel_rfl) (Tells.load_box (i := 0) (b := b1) (o := 0) (agg := false) (by rfl) ag3 (by kernel_rfl) (fun _ => rfl) (Nat.le_of_ble_eq_true rfl) (v := .int .i64 a0.f0) (by kernel_rfl)) ?_
    refine WL.pure 3 5 [1, 7] (L' := [(1, .pointer (some ⟨b1, 0, none⟩)), (7, .bool (decide (a0.f0 ≥ 0)))]) (by kernel_rfl) (by decide) ?_
    refine WL.split 7 (b := decide (a0.f0 ≥ 0)) (by kernel_rfl) (fun hc => ?_) (fun hc => ?_)
    · replace hc := of_decide_eq_true hc
      rw [if_pos hc] at h
      have hc4 := hc
      clear hc
      refine WL.pure 5 7 [1, 7, 9] (L' := [(1, .pointer (some ⟨b1, 0, none⟩)), (7, .bool true), (9, .pointer (some ⟨b1, 0, none⟩))]) (by kernel_rfl) (by decide) ?_
      refine WL.tell (op := .load 3 (.tmp 9)) (ty := 3) (d := some 10) (g := some (4, true)) (by kernel_rfl) (by kernel_rfl) (by kernel_rfl) (Tells.load_box (i := 0) (b := b1) (o := 0) (agg := false) (by rfl) ag3 (by kernel_rfl) (fun _ => rfl) (Nat.le_of_ble_eq_true rfl) (v := .int .i64 a0.f0) (by kernel_rfl)) ?_
      refine WL.pure 8 11 [1, 13] (L' := [(1, .pointer (some ⟨b1, 0, none⟩)), (13, .bool (decide (a0.f0 < 8)))]) (by kernel_rfl) (by decide) ?_
      refine WL.split 13 (b := decide (a0.f0 < 8)) (by kernel_rfl) (fun hc => ?_) (fun hc => ?_)
      · replace hc := of_decide_eq_true hc
        rw [if_pos hc] at h
        have hc5 := hc
        clear hc
        refine WL.pure 11 13 [1, 13, 15] (L' := [(1, .pointer (some ⟨b1, 0, none⟩)), (13, .bool true), (15, .pointer (some ⟨b1, 1, none⟩))]) (by kernel_rfl) (by decide) ?_
        refine WL.tell (op := .load 3 (.tmp 15)) (ty := 3) (d := some 16) (g := some (10, true)) (by kernel_rfl) (by kernel_rfl) (by kernel_rfl) (Tells.load_box (i := 0) (b := b1) (o := 1) (agg := false) (by rfl) ag3 (by kernel_rfl) (fun _ => rfl) (Nat.le_of_ble_eq_true rfl) (v := .int .i64 a0.f1) (by kernel_rfl)) ?_
        refine WL.pure 14 17 [1, 19] (L' := [(1, .pointer (some ⟨b1, 0, none⟩)), (19, .bool (decide (a0.f1 ≥ 1)))]) (by kernel_rfl) (by decide) ?_
        refine WL.split 19 (b := decide (a0.f1 ≥ 1)) (by kernel_rfl) (fun hc => ?_) (fun hc => ?_)
        · replace hc := of_decide_eq_true hc
          rw [if_pos hc] at h
          have hc6 := hc
          clear hc
          refine WL.pure 17 19 [1, 19, 21] (L' := [(1, .pointer (some ⟨b1, 0, none⟩)), (19, .bool true), (21, .pointer (some ⟨b1, 1, none⟩))]) (by kernel_rfl) (by decide) ?_
          refine WL.tell (op := .load 3 (.tmp 21)) (ty := 3) (d := some 22) (g := some (16, true)) (by kernel_rfl) (by kernel_rfl) (by kernel_rfl) (Tells.load_box (i := 0) (b := b1) (o := 1) (agg := false) (by rfl) ag3 (by kernel_rfl) (fun _ => rfl) (Nat.le_of_ble_eq_true rfl) (v := .int .i64 a0.f1) (by kernel_rfl)) ?_
          refine WL.pure 20 23 [1, 25] (L' := [(1, .pointer (some ⟨b1, 0, none⟩)), (25, .bool (decide (a0.f1 ≤ 1023)))]) (by kernel_rfl) (by decide) ?_
          refine WL.split 25 (b := decide (a0.f1 ≤ 1023)) (by kernel_rfl) (fun hc => ?_) (fun hc => ?_)
          · replace hc := of_decide_eq_true hc
            rw [if_pos hc] at h
            have hc7 := hc
            clear hc
            refine WL.pure 23 24 [1, 25, 26] (L' := [(1, .pointer (some ⟨b1, 0, none⟩)), (25, .bool true), (26, .pointer (some ⟨b1, 2, none⟩))]) (by kernel_rfl) (by decide) ?_
            refine WL.tell (op := .load 29 (.tmp 26)) (ty := 29) (d := some 27) (g := some (22, true)) (by kernel_rfl) (by kernel_rfl) (by kernel_rfl) (Tells.load_box (i := 0) (b := b1) (o := 2) (agg := true) (by rfl) ag29 (by kernel_rfl) (fun h => by cases h) (Nat.le_of_ble_eq_true rfl) (v := .agg #[.int .i64 a0.f2, .int .i64 a0.f3]) (by kernel_rfl)) ?_
            rw [Option.bind_eq_some_iff] at h
            obtain ⟨t8, ht9, h⟩ := h
            refine WL.op (op := .call { callee := (.value (.func 35)), args := #[(.tmp 27)], argTypes := #[29] }) (ty := 4) (d := some 28) (g := some (22, true)) (by kernel_rfl) (by kernel_rfl) (by kernel_rfl) (Does.call (f := 35) (args := [.agg #[.int .i64 a0.f2, .int .i64 a0.f3]]) (by kernel_rfl) (fun W hI => (stamp_May_calls (⟨a0.f2, a0.f3⟩ : T29)  t8 ht9 hI))) ?_
            rintro _ _ _ ⟨rfl, rfl, rfl⟩
            refine WL.pure 26 28 [1, 30] (L' := [(1, .pointer (some ⟨b1, 0, none⟩)), (30, .bool t8)]) (by kernel_rfl) (by decide) ?_
            refine WL.split 30 (b := t8) (by kernel_rfl) (fun hc => ?_) (fun hc => ?_)
            · replace hc := hc
              rw [if_pos hc] at h
              have hc12 := hc
              clear hc
              refine WL.pure 28 29 [30, 31] (L' := [(30, .bool true), (31, .pointer (some ⟨b1, 4, none⟩))]) (by kernel_rfl) (by decide) ?_
              refine WL.tell (op := .load 9 (.tmp 31)) (ty := 9) (d := some 32) (g := some (27, true)) (by kernel_rfl) (by kernel_rfl) (by kernel_rfl) (Tells.load_box (i := 0) (b := b1) (o := 4) (agg := false) (by rfl) ag9 (by kernel_rfl) (fun _ => rfl) (Nat.le_of_ble_eq_true rfl) (v := .string a0.f4) (by kernel_rfl)) ?_
              rw [Option.bind_eq_some_iff] at h
              obtain ⟨t13, ht14, h⟩ := h
              refine WL.op (op := .call { callee := (.value (.func 36)), args := #[(.tmp 32)], argTypes := #[9] }) (ty := 4) (d := some 33) (g := some (27, true)) (by kernel_rfl) (by kernel_rfl) (by kernel_rfl) (Does.call (f := 36) (args := [.string a0.f4]) (by kernel_rfl) (fun W hI => (tokens_May_calls HT a0.f4  t13 ht14 hI))) ?_
              rintro _ _ _ ⟨rfl, rfl, rfl⟩
              refine WL.rest 31 [2] (L' := [(2, .bool t13)]) (by kernel_rfl) ?_
              refine QP.dropAt 0 ?_
              refine QP.pick [2] ?_
              exact QP.meet ⟨_, Option.some.inj h, rfl, rfl, rfl⟩
            · replace hc := (Bool.eq_false_iff.1 hc)
              rw [if_neg hc] at h
              have hc12 := hc
              clear hc
              refine WL.rest 28 [2] (L' := [(2, .bool false)]) (by kernel_rfl) ?_
              refine QP.dropAt 0 ?_
              refine QP.pick [2] ?_
              exact QP.meet ⟨_, Option.some.inj h, rfl, rfl, rfl⟩
          · replace hc := of_decide_eq_false hc
            rw [if_neg hc] at h
            have hc7 := hc
            clear hc
            refine WL.rest 23 [2] (L' := [(2, .bool false)]) (by kernel_rfl) ?_
            refine QP.dropAt 0 ?_
            refine QP.pick [2] ?_
            exact QP.meet ⟨_, Option.some.inj h, rfl, rfl, rfl⟩
        · replace hc := of_decide_eq_false hc
          rw [if_neg hc] at h
          have hc6 := hc
          clear hc
          refine WL.rest 17 [2] (L' := [(2, .bool false)]) (by kernel_rfl) ?_
          refine QP.dropAt 0 ?_
          refine QP.pick [2] ?_
          exact QP.meet ⟨_, Option.some.inj h, rfl, rfl, rfl⟩
      · replace hc := of_decide_eq_false hc
        rw [if_neg hc] at h
        have hc5 := hc
        clear hc
        refine WL.rest 11 [2] (L' := [(2, .bool false)]) (by kernel_rfl) ?_
        refine QP.dropAt 0 ?_
        refine QP.pick [2] ?_
        exact QP.meet ⟨_, Option.some.inj h, rfl, rfl, rfl⟩
    · replace hc := of_decide_eq_false hc
      rw [if_neg hc] at h
      have hc4 := hc
      clear hc
      refine WL.rest 5 [2] (L' := [(2, .bool false)]) (by kernel_rfl) ?_
      refine QP.dropAt 0 ?_
      refine QP.pick [2] ?_
      exact QP.meet ⟨_, Option.some.inj h, rfl, rfl, rfl⟩
  · rintro _ _ _ ⟨s2, rfl, rfl, rfl, rfl⟩
    clear h
    replace h := hk3
    refine WP.ret ?_
    obtain rfl := Option.some.inj h
    exact QP.returned [2] [.bool s2] _ (by kernel_rfl) (by kernel_rfl) (by kernel_rfl) (fun W hI => ⟨_, _, _, rfl, ⟨rfl, rfl, rfl⟩, hI⟩)

/-! ### strings.FieldsFunc: function 37 -/
def strings_FieldsFunc (a0 : ByteArray) : Option (List ByteArray) := (if a0.size ≤ 4294967296 ∧ RunesOk tokens_other then some (Lib.goFieldsP (fun x => (tokens_other (x : Int)).getD false) a0) else none)
set_option maxHeartbeats 4000000 in
theorem strings_FieldsFunc_calls {B : World} {G : GMap} {Γ : List Chunk} {W : World} (HT : Tabs B G) (a0 : ByteArray) (r : List ByteArray) (h : strings_FieldsFunc a0 = some r) (hI : Inv B G (Γ) W) :
    Calls Tryd.prog 37 [.string a0, .func (.func 38) #[] #[]].toArray W (Ret B (fun v G' Γ' => ∃ (AR : Option Addr), ∃ (cR : Nat), ∃ (CR : Chunk), v = .slice AR r.length cR ∧ Ow kStr G' AR cR r CR ∧ G = G' ∧ CR :: Γ = Γ')) := by
  unfold strings_FieldsFunc at h
  by_cases hs : a0.size ≤ 4294967296 ∧ RunesOk tokens_other
  case neg => rw [if_neg hs] at h; cases h
  rw [if_pos hs] at h
  obtain rfl := Option.some.inj h
  refine (Tryd.strings_FieldsFunc_grows 38 #[] (enters_of Tryd.func38 (by kernel_rfl) rfl) (fun x => (tokens_other (x : Int)).getD false) a0 W hs.1 (predGrows tokens_other hs.2 fun W' hb x b hx => ?_)).mono fun e w' hr => ?_
  · exact (tokens_other_calls (Tabs.start (Tab.below (HT.all hI) hb)) (x : Int) b hx (Inv.start W')).mono fun e w' hr => by obtain ⟨_, _, _, rfl, ⟨rfl, rfl, rfl⟩, hI'⟩ := hr; exact ⟨rfl, hI'.below⟩
  · obtain ⟨A, rfl, hA, hown, hb⟩ := hr
    obtain ⟨o, ho, hO⟩ := Ow.ofRow (kd := kStr) (G := G) (enc := Value.string) rfl (fun _ _ => rfl) hown
    exact ⟨_, _, _, rfl, ⟨_, _, _, rfl, hO, rfl, rfl⟩, hI.keptNew hb hA ho⟩

/-! ### grapevine/tokens.Of: function 18 -/
def tokens_Of_l0 (t6 : List ByteArray) : Nat → (List T45) → Int → Option (List T45)
  | 0, _, _ => none
  | k + 1, y12, y13 => (if y13 < (t6.length : Int) then (if 0 ≤ y13 ∧ y13 < (t6.length : Int) then ((some (t6.getD y13.toNat (⟨#[]⟩ : ByteArray))).bind fun v18 => ((tokens_Norm v18).bind fun t20 => (if y12.length + ([(⟨t20, y13⟩ : T45)] : List T45).length ≤ 1073741824 then tokens_Of_l0 t6 k (y12 ++ ([(⟨t20, y13⟩ : T45)] : List T45)) (IntKind.i64.wrap (y13 + 1)) else none))) else none) else some y12)
def tokens_Of (k : Nat) (a0 : ByteArray) : Option (List T45) := ((tokens_May a0).bind fun t1 => (if (!t1) = true then some ([] : List T45) else ((strings_FieldsFunc a0).bind fun t6 => ((tokens_Of_l0 t6 k ([] : List T45) 0).bind fun s10 => some s10))))
set_option maxHeartbeats 4000000 in
theorem tokens_Of_calls {B : World} {G : GMap} {Γ : List Chunk} {W : World} (HT : Tabs B G) (k : Nat) (a0 : ByteArray) (r : List T45) (h : tokens_Of k a0 = some r) (hI : Inv B G (Γ) W) :
    Calls Tryd.prog 18 [.string a0].toArray W (Ret B (fun v G' Γ' => ∃ (AR : Option Addr), ∃ (cR : Nat), ∃ (CR : Chunk), v = .slice AR r.length cR ∧ Ow k45 G' AR cR r CR ∧ G = G' ∧ CR :: Γ = Γ')) := by
  refine calls_WP (Γ := Γ) (G := G) (B := B) Tryd.func18 rfl (by kernel_rfl) ?_ hI
  clear hI
  unfold tokens_Of at h
  refine WP.seqP [0] (L' := [(0, .string a0)]) (by kernel_rfl) ?_
  refine WP.seq ?_
  refine WP.seqR ?_
  refine WL.pure 0 1 [0, 6] (L' := [(0, .string a0), (6, .string a0)]) (by kernel_rfl) (by decide) ?_
  rw [Option.bind_eq_some_iff] at h
  obtain ⟨t1, ht2, h⟩ := h
  refine WL.op (op := .call { callee := (.value (.func 36)), args := #[(.tmp 6)], argTypes := #[9] }) (ty := 4) (d := some 7) (g := none) (by kernel_rfl) (by kernel_rfl) (by kernel_rfl) (Does.call (f := 36) (args := [.string a0]) (by kernel_rfl) (fun W hI => (tokens_May_calls HT a0  t1 ht2 hI))) ?_
  rintro _ _ _ ⟨rfl, rfl, rfl⟩
  refine WL.restQ 2 [0, 8] (L' := [(0, .string a0), (8, .bool (!t1))]) (by kernel_rfl) ?_
  refine WP.cond (b := (!t1)) (by kernel_rfl) (fun hc => ?_) (fun hc => ?_)
  · replace hc := hc
    rw [if_pos hc] at h
    have hc5 := hc
    clear hc
    refine WP.seqP [2] (L' := [(2, .slice none 0 0)]) (by kernel_rfl) ?_
    refine WP.ret ?_
    refine QP.thenR ?_
    obtain rfl := Option.some.inj h
    refine QP.addNil ?_
    exact QP.returned [2] [.slice none ([] : List T45).length 0] _ (by kernel_rfl) (by kernel_rfl) (by kernel_rfl) (fun W hI => ⟨_, _, _, rfl, ⟨none, 0, [], rfl, (Ow.nil k45 _), rfl, rfl⟩, hI⟩)
  · replace hc := (Bool.eq_false_iff.1 hc)
    rw [if_neg hc] at h
    have hc5 := hc
    clear hc
    refine WP.skip ?_
    refine QP.next ?_
    refine WP.pick [0] ?_
    refine WP.seqP [0, 3] (L' := [(0, .string a0), (3, .slice none 0 0)]) (by kernel_rfl) ?_
    refine WP.seq ?_
    refine WP.seqR ?_
    refine WL.pure 0 1 [3, 9] (L' := [(3, .slice none 0 0), (9, .string a0)]) (by kernel_rfl) (by decide) ?_
    rw [Option.bind_eq_some_iff] at h
    obtain ⟨t6, ht7, h⟩ := h
    refine WL.op (op := .call { callee := (.value (.func 37)), args := #[(.tmp 9), (.func 38)], argTypes := #[9, 65] }) (ty := 22) (d := some 10) (g := none) (by kernel_rfl) (by kernel_rfl) (by kernel_rfl) (Does.call (f := 37) (args := [.string a0, .func (.func 38) #[] #[]]) (by kernel_rfl) (fun W hI => (strings_FieldsFunc_calls HT a0  t6 ht7 hI))) ?_
    rintro _ _ _ ⟨AR8, cR8, CR8, rfl, HR8, rfl, rfl⟩
    refine WL.restQ 2 [3, 10, 11, 12] (L' := [(3, .slice none 0 0), (10, .slice AR8 t6.length cR8), (11, .int .i64 (t6.length : Int)), (12, .int .i64 0)]) (by kernel_rfl) ?_
    rw [Option.bind_eq_some_iff] at h
    obtain ⟨os10, h, hk11⟩ := h
    refine WP.cutQ (fun L' G' Γ' => ∃ s10 : (List T45), s10 = os10 ∧ ∃ (As10 : Option Addr), ∃ (cs10 : Nat), ∃ (Cs10 : Chunk), L' = [(3, .slice As10 s10.length cs10)] ∧ G = G' ∧ Cs10 :: Γ = Γ' ∧ Ow k45 G As10 cs10 s10 Cs10) ?_ ?_
    · clear hk11
      refine WP.block ?_
      refine WP.addNil ?_
      refine WP.pick [3, 10, 11, 12] ?_
      refine WP.loopF (fun kn14 L' G' Γ' => ∃ (y12 : List T45), ∃ (y13 : Int), tokens_Of_l0 t6 kn14 y12 y13 = some os10 ∧ ∃ (Ay12 : Option Addr), ∃ (cy12 : Nat), ∃ (Cy12 : Chunk), L' = [(3, .slice Ay12 y12.length cy12), (10, .slice AR8 t6.length cR8), (11, .int .i64 (t6.length : Int)), (12, .int .i64 y13)] ∧ G = G' ∧ Cy12 :: CR8 :: Γ = Γ' ∧ Ow k45 G Ay12 cy12 y12 Cy12) ?_ k ⟨([] : List T45), 0, h, none, 0, [], rfl, rfl, rfl, (Ow.nil k45 _)⟩
      clear h
      rintro kn15 _ _ _ ⟨y12, y13, h, Ay12, cy12, Cy12, rfl, rfl, rfl, Hy12⟩
      cases kn15 with
      | zero => exact absurd h (by simp [tokens_Of_l0])
      | succ kn15 =>
        simp only [tokens_Of_l0] at h
        refine WP.seqP [3, 10, 11, 12, 13] (L' := [(3, .slice Ay12 y12.length cy12), (10, .slice AR8 t6.length cR8), (11, .int .i64 (t6.length : Int)), (12, .int .i64 y13), (13, .bool (decide (y13 < (t6.length : Int))))]) (by kernel_rfl) ?_
        refine WP.seq ?_
        refine WP.cond (b := decide (y13 < (t6.length : Int))) (by kernel_rfl) (fun hc => ?_) (fun hc => ?_)
        · replace hc := of_decide_eq_true hc
          rw [if_pos hc] at h
          have hc16 := hc
          clear hc
          refine WP.skip ?_
          refine QP.next ?_
          refine WP.pick [3, 10, 11, 12] ?_
          refine WP.seq ?_
          refine WP.block ?_
          refine WP.seqR ?_
          refine WL.pure 0 1 [3, 10, 11, 12, 14] (L' := [(3, .slice Ay12 y12.length cy12), (10, .slice AR8 t6.length cR8), (11, .int .i64 (t6.length : Int)), (12, .int .i64 y13), (14, .int .i64 y13)]) (by kernel_rfl) (by decide) ?_
          by_cases hb17 : 0 ≤ y13 ∧ y13 < (t6.length : Int)
          case neg => rw [if_neg hb17] at h; cases h
          rw [if_pos hb17] at h
          refine WL.tell (op := .indexAddr 22 (.tmp 10) (.tmp 12)) (ty := 0) (d := some 15) (g := none) (by kernel_rfl) (by kernel_rfl) (by kernel_rfl) (Tells.indexAddr (A := AR8) (n := t6.length) (c := cR8) (k := .i64) (j := y13) (by kernel_rfl) (by kernel_rfl) (HR8.isSome hb17.1 hb17.2) hb17.1 hb17.2 sl22) ?_
          refine WL.tellE (op := .load 9 (.tmp 15)) (ty := 9) (d := some 16) (g := none) (by kernel_rfl) (by kernel_rfl) (by kernel_rfl) (HR8.load (i := 1) rfl (agg := false) hb17.1 hb17.2 (⟨#[]⟩ : ByteArray) ag9 (fun _ => rfl) (by kernel_rfl)) ?_
          rintro _ rfl
          refine WL.restQ 3 [3, 4, 5, 10, 11, 12] (L' := [(3, .slice Ay12 y12.length cy12), (4, .int .i64 y13), (5, .string (t6.getD y13.toNat (⟨#[]⟩ : ByteArray))), (10, .slice AR8 t6.length cR8), (11, .int .i64 (t6.length : Int)), (12, .int .i64 y13)]) (by kernel_rfl) ?_
          obtain ⟨v18, hv19, h⟩ := Option.bind_eq_some_iff.1 h
          replace hv19 := Option.some.inj hv19
          refine WP.reput 5 (v := .string (t6.getD y13.toNat (⟨#[]⟩ : ByteArray))) (v' := .string v18) (by kernel_rfl) (by subst hv19; rfl) ?_
          refine WP.pick [3, 4, 5, 10, 11, 12] ?_
          refine WP.region ?_
          refine WL.pure 0 2 [3, 4, 10, 11, 12, 17, 18] (L' := [(3, .slice Ay12 y12.length cy12), (4, .int .i64 y13), (10, .slice AR8 t6.length cR8), (11, .int .i64 (t6.length : Int)), (12, .int .i64 y13), (17, .slice Ay12 y12.length cy12), (18, .string v18)]) (by kernel_rfl) (by decide) ?_
          rw [Option.bind_eq_some_iff] at h
          obtain ⟨t20, ht21, h⟩ := h
          refine WL.op (op := .call { callee := (.value (.func 39)), args := #[(.tmp 18)], argTypes := #[9] }) (ty := 9) (d := some 19) (g := none) (by kernel_rfl) (by kernel_rfl) (by kernel_rfl) (Does.call (f := 39) (args := [.string v18]) (by kernel_rfl) (fun W hI => (tokens_Norm_calls HT v18  t20 ht21 hI))) ?_
          rintro _ _ _ ⟨rfl, rfl, rfl⟩
          refine WL.pure 3 5 [3, 10, 11, 12, 17, 21] (L' := [(3, .slice Ay12 y12.length cy12), (10, .slice AR8 t6.length cR8), (11, .int .i64 (t6.length : Int)), (12, .int .i64 y13), (17, .slice Ay12 y12.length cy12), (21, .agg #[.string t20, .int .i64 y13])]) (by kernel_rfl) (by decide) ?_
          refine WL.op (op := .buildSlice 32 1 #[(0, (.tmp 21))]) (ty := 32) (d := some 22) (g := none) (by kernel_rfl) (by kernel_rfl) (by kernel_rfl) (Does.new (o := .cells #[.string t20, .int .i64 y13] 45 (0, 0)) (v := fun r => .slice (some ⟨r, 0, none⟩) 1 1) (fun r => by kernel_rfl)) ?_
          rintro _ _ _ ⟨b24, rfl, rfl, rfl⟩
          have Ho26 : Ow k45 G (some ⟨b24, 0, none⟩) 1 ([(⟨t20, y13⟩ : T45)] : List T45) [(b24, .cells #[.string t20, .int .i64 y13] 45 (0, 0))] := Ow.lit (kd := k45) (G := G) (b := b24) (T := 45) (xs := ([(⟨t20, y13⟩ : T45)] : List T45)) (cs := [.string t20, .int .i64 y13]) (.cons (x := (⟨t20, y13⟩ : T45)) (cs := [.string t20, .int .i64 y13]) (by exact rfl) .nil)
          by_cases hb27 : y12.length + ([(⟨t20, y13⟩ : T45)] : List T45).length ≤ 1073741824
          case neg => rw [if_neg hb27] at h; cases h
          rw [if_pos hb27] at h
          refine WL.op (op := .call { callee := (.builtin .append), args := #[(.tmp 17), (.tmp 22)], argTypes := #[32, 32] }) (ty := 32) (d := some 23) (g := none) (by kernel_rfl) (by kernel_rfl) (by kernel_rfl) (Ow.append (ys := ([(⟨t20, y13⟩ : T45)] : List T45)) (v := .slice (some ⟨b24, 0, none⟩) ([(⟨t20, y13⟩ : T45)] : List T45).length 1) Hy12 (i := 1) rfl (by kernel_rfl) (by kernel_rfl) (Ho26.src (i := 0) rfl) sl32 ze45 nt32 (by decide) hb27) ?_
          rintro _ _ _ ⟨rfl, AN28, cN28, CN28, rfl, HN28, rfl⟩
          refine WL.rest 7 [3, 10, 11, 12] (L' := [(3, .slice AN28 (y12 ++ ([(⟨t20, y13⟩ : T45)] : List T45)).length cN28), (10, .slice AR8 t6.length cR8), (11, .int .i64 (t6.length : Int)), (12, .int .i64 y13)]) (by kernel_rfl) ?_
          refine QP.blockN ?_
          refine QP.next ?_
          refine WP.pick [3, 10, 11, 12] ?_
          refine WP.regionP [3, 10, 11, 12] (L' := [(3, .slice AN28 (y12 ++ ([(⟨t20, y13⟩ : T45)] : List T45)).length cN28), (10, .slice AR8 t6.length cR8), (11, .int .i64 (t6.length : Int)), (12, .int .i64 (IntKind.i64.wrap (y13 + 1)))]) (by kernel_rfl) ?_
          refine QP.dropAt 0 ?_
          refine QP.front (i := 1) rfl ?_
          refine QP.front (i := 1) rfl ?_
          refine QP.pick [3, 10, 11, 12] ?_
          exact QP.meet ⟨kn15, Nat.lt_succ_self _, (y12 ++ ([(⟨t20, y13⟩ : T45)] : List T45)), (IntKind.i64.wrap (y13 + 1)), h, AN28, cN28, CN28, rfl, rfl, rfl, HN28⟩
        · replace hc := of_decide_eq_false hc
          rw [if_neg hc] at h
          have hc16 := hc
          clear hc
          refine WP.exit ?_
          refine QP.thenE ?_
          refine QP.thenE ?_
          refine QP.blockE ?_
          refine QP.dropAt 1 ?_
          refine QP.pick [3] ?_
          exact QP.meet ⟨_, Option.some.inj h, Ay12, cy12, Cy12, rfl, rfl, rfl, Hy12⟩
    · rintro _ _ _ ⟨s10, rfl, As10, cs10, Cs10, rfl, rfl, rfl, Hs10⟩
      clear h
      replace h := hk11
      refine QP.next ?_
      refine WP.pick [3] ?_
      refine WP.seqP [2] (L' := [(2, .slice As10 s10.length cs10)]) (by kernel_rfl) ?_
      refine WP.ret ?_
      obtain rfl := Option.some.inj h
      exact QP.returned [2] [.slice As10 s10.length cs10] _ (by kernel_rfl) (by kernel_rfl) (by kernel_rfl) (fun W hI => ⟨_, _, _, rfl, ⟨As10, cs10, Cs10, rfl, Hs10, rfl, rfl⟩, hI⟩)
end Go.Proofs.YtbphlohiealbeaaDoor.Gf
