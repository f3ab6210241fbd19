/- Walks of Go functions: what each tells, as a plain Lean function, and that the Go code comes to it. Written by gg.py of this repo. -/
import Derived.Test.YtfocilpnbiciaaaDoorT
import Derived.Test.YtfocilpnbiciaaaDoorF1
import Derived.Test.YtfocilpnbiciaaaDoorF4
namespace Go.Proofs.YtfocilpnbiciaaaDoor.Gf
open Go Go.Gg
set_option maxRecDepth 100000
set_option linter.unusedVariables false
set_option linter.unusedSimpArgs false

/-! ### grapevine/grapevineref4.Before: function 87 -/
def grapevineref4_Before (a0 : T35) (a1 : T35) : Option Bool := ((if a0.f0 < a1.f0 then some true else (if a0.f0 = a1.f0 then some (decide (a0.f1 < a1.f1)) else some false)).bind fun s3 => some s3)
set_option maxHeartbeats 4000000 in
theorem grapevineref4_Before_calls {B : World} {G : GMap} {Γ : List Chunk} {W : World} (a0 : T35) (a1 : T35) (r : Bool) (h : grapevineref4_Before a0 a1 = some r) (hI : Inv B G (Γ) W) :
    Calls Tryd.prog 87 [.agg #[.int .i64 a0.f0, .int .i64 a0.f1], .agg #[.int .i64 a1.f0, .int .i64 a1.f1]].toArray W (Ret B (fun v G' Γ' => v = .bool r ∧ G = G' ∧ Γ = Γ')) := by
  refine calls_WP (Γ := Γ) (G := G) (B := B) Tryd.func87 rfl (by kernel_rfl) ?_ hI
  clear hI
  unfold grapevineref4_Before at h
  refine WP.seqR ?_
  refine WL.op (op := .box 35 (.tmp 0)) (ty := 0) (d := some 2) (g := none) (by kernel_rfl) (by kernel_rfl) (by kernel_rfl) (Does.new (o := .cells #[.int .i64 a0.f0, .int .i64 a0.f1] 35 (0, 0)) (v := fun r => .pointer (some ⟨r, 0, none⟩)) (fun r => by kernel_rfl)) ?_
  rintro _ _ _ ⟨b1, rfl, rfl, rfl⟩
  refine WL.op (op := .box 35 (.tmp 1)) (ty := 0) (d := some 3) (g := none) (by kernel_rfl) (by kernel_rfl) (by kernel_rfl) (Does.new (o := .cells #[.int .i64 a1.f0, .int .i64 a1.f1] 35 (0, 0)) (v := fun r => .pointer (some ⟨r, 0, none⟩)) (fun r => by kernel_rfl)) ?_
  rintro _ _ _ ⟨b2, rfl, rfl, rfl⟩
  refine WL.restQ 2 [2, 3] (L' := [(2, .pointer (some ⟨b1, 0, none⟩)), (3, .pointer (some ⟨b2, 0, none⟩))]) (by kernel_rfl) ?_
  rw [Option.bind_eq_some_iff] at h
  obtain ⟨os3, h, hk4⟩ := h
  refine WP.cut (fun L' G' Γ' => ∃ s3 : Bool, s3 = os3 ∧ L' = [(4, .bool s3)] ∧ G = G' ∧ Γ = Γ') ?_ ?_
  · clear hk4
    refine WP.region ?_
    refine WL.pure 0 1 [2, 3, 5] (L' := [(2, .pointer (some ⟨b1, 0, none⟩)), (3, .pointer (some ⟨b2, 0, none⟩)), (5, .pointer (some ⟨b1, 0, none⟩))]) (by kernel_rfl) (by decide) ?_
    refine WL.tell (op := .load 3 (.tmp 5)) (ty := 3) (d := some 6) (g := none) (by kernel_rfl) (by kernel_rfl) (by kernel_rfl) (Tells.load_box (i := 1) (b := b1) (o := 0) (agg := false) (by rfl) ag3 (by kernel_rfl) (fun _ => rfl) (Nat.le_of_ble_eq_true rfl) (v := .int .i64 a0.f0) (by kernel_rfl)) ?_
    refine WL.pure 2 3 [2, 3, 6, 7] (L' := [(2, .pointer (some ⟨b1, 0, none⟩)), (3, .pointer (some ⟨b2, 0, none⟩)), (6, .int .i64 a0.f0), (7, .pointer (some ⟨b2, 0, none⟩))]) (by kernel_rfl) (by decide) ?_
    refine WL.tell (op := .load 3 (.tmp 7)) (ty := 3) (d := some 8) (g := none) (by kernel_rfl) (by kernel_rfl) (by kernel_rfl) (Tells.load_box (i := 0) (b := b2) (o := 0) (agg := false) (by rfl) ag3 (by kernel_rfl) (fun _ => rfl) (Nat.le_of_ble_eq_true rfl) (v := .int .i64 a1.f0) (by kernel_rfl)) ?_
    refine WL.pure 4 6 [2, 3, 10] (L' := [(2, .pointer (some ⟨b1, 0, none⟩)), (3, .pointer (some ⟨b2, 0, none⟩)), (10, .bool (decide (a0.f0 < a1.f0)))]) (by kernel_rfl) (by decide) ?_
    refine WL.split 10 (b := decide (a0.f0 < a1.f0)) (by kernel_rfl) (fun hc => ?_) (fun hc => ?_)
    · replace hc := of_decide_eq_true hc
      rw [if_pos hc] at h
      have hc5 := hc
      clear hc
      refine WL.rest 6 [4] (L' := [(4, .bool true)]) (by kernel_rfl) ?_
      refine QP.dropAt 1 ?_
      refine QP.dropAt 0 ?_
      refine QP.pick [4] ?_
      exact QP.meet ⟨_, Option.some.inj h, rfl, rfl, rfl⟩
    · replace hc := of_decide_eq_false hc
      rw [if_neg hc] at h
      have hc5 := hc
      clear hc
      refine WL.pure 6 7 [2, 3, 10, 11] (L' := [(2, .pointer (some ⟨b1, 0, none⟩)), (3, .pointer (some ⟨b2, 0, none⟩)), (10, .bool false), (11, .pointer (some ⟨b1, 0, none⟩))]) (by kernel_rfl) (by decide) ?_
      refine WL.tell (op := .load 3 (.tmp 11)) (ty := 3) (d := some 12) (g := some (5, false)) (by kernel_rfl) (by kernel_rfl) (by kernel_rfl) (Tells.load_box (i := 1) (b := b1) (o := 0) (agg := false) (by rfl) ag3 (by kernel_rfl) (fun _ => rfl) (Nat.le_of_ble_eq_true rfl) (v := .int .i64 a0.f0) (by kernel_rfl)) ?_
      refine WL.pure 8 9 [2, 3, 10, 12, 13] (L' := [(2, .pointer (some ⟨b1, 0, none⟩)), (3, .pointer (some ⟨b2, 0, none⟩)), (10, .bool false), (12, .int .i64 a0.f0), (13, .pointer (some ⟨b2, 0, none⟩))]) (by kernel_rfl) (by decide) ?_
      refine WL.tell (op := .load 3 (.tmp 13)) (ty := 3) (d := some 14) (g := some (5, false)) (by kernel_rfl) (by kernel_rfl) (by kernel_rfl) (Tells.load_box (i := 0) (b := b2) (o := 0) (agg := false) (by rfl) ag3 (by kernel_rfl) (fun _ => rfl) (Nat.le_of_ble_eq_true rfl) (v := .int .i64 a1.f0) (by kernel_rfl)) ?_
      refine WL.pure 10 12 [2, 3, 10, 16] (L' := [(2, .pointer (some ⟨b1, 0, none⟩)), (3, .pointer (some ⟨b2, 0, none⟩)), (10, .bool false), (16, .bool (a0.f0 == a1.f0))]) (by kernel_rfl) (by decide) ?_
      refine WL.split 16 (b := (a0.f0 == a1.f0)) (by kernel_rfl) (fun hc => ?_) (fun hc => ?_)
      · replace hc := eq_of_beq hc
        rw [if_pos hc] at h
        have hc6 := hc
        clear hc
        refine WL.pure 12 13 [3, 10, 16, 17] (L' := [(3, .pointer (some ⟨b2, 0, none⟩)), (10, .bool false), (16, .bool true), (17, .pointer (some ⟨b1, 1, none⟩))]) (by kernel_rfl) (by decide) ?_
        refine WL.tell (op := .load 3 (.tmp 17)) (ty := 3) (d := some 18) (g := some (11, true)) (by kernel_rfl) (by kernel_rfl) (by kernel_rfl) (Tells.load_box (i := 1) (b := b1) (o := 1) (agg := false) (by rfl) ag3 (by kernel_rfl) (fun _ => rfl) (Nat.le_of_ble_eq_true rfl) (v := .int .i64 a0.f1) (by kernel_rfl)) ?_
        refine WL.pure 14 15 [10, 16, 18, 19] (L' := [(10, .bool false), (16, .bool true), (18, .int .i64 a0.f1), (19, .pointer (some ⟨b2, 1, none⟩))]) (by kernel_rfl) (by decide) ?_
        refine WL.tell (op := .load 3 (.tmp 19)) (ty := 3) (d := some 20) (g := some (11, true)) (by kernel_rfl) (by kernel_rfl) (by kernel_rfl) (Tells.load_box (i := 0) (b := b2) (o := 1) (agg := false) (by rfl) ag3 (by kernel_rfl) (fun _ => rfl) (Nat.le_of_ble_eq_true rfl) (v := .int .i64 a1.f1) (by kernel_rfl)) ?_
        refine WL.rest 16 [4] (L' := [(4, .bool (decide (a0.f1 < a1.f1)))]) (by kernel_rfl) ?_
        refine QP.dropAt 1 ?_
        refine QP.dropAt 0 ?_
        refine QP.pick [4] ?_
        exact QP.meet ⟨_, Option.some.inj h, rfl, rfl, rfl⟩
      · replace hc := ne_of_beq_false hc
        rw [if_neg hc] at h
        have hc6 := hc
        clear hc
        refine WL.rest 12 [4] (L' := [(4, .bool false)]) (by kernel_rfl) ?_
        refine QP.dropAt 1 ?_
        refine QP.dropAt 0 ?_
        refine QP.pick [4] ?_
        exact QP.meet ⟨_, Option.some.inj h, rfl, rfl, rfl⟩
  · rintro _ _ _ ⟨s3, rfl, rfl, rfl, rfl⟩
    clear h
    replace h := hk4
    refine WP.ret ?_
    obtain rfl := Option.some.inj h
    exact QP.returned [4] [.bool s3] _ (by kernel_rfl) (by kernel_rfl) (by kernel_rfl) (fun W hI => ⟨_, _, _, rfl, ⟨rfl, rfl, rfl⟩, hI⟩)

/-! ### grapevine/grapevineref20.records: function 63 -/
def grapevineref20_records_l0 (l0 : List T39) (a1 : Int) : Nat → Int → Option (Sum Bool Unit)
  | 0, _ => none
  | k + 1, y3 => ((if y3 < (l0.length : Int) then some (decide ((l0.length : Int) ≤ 5)) else some false).bind fun s6 => (if s6 = true then ((if 0 ≤ y3 ∧ y3 < (l0.length : Int) then ((grapevineref4_May (l0.getD y3.toNat z39)).bind fun t13 => (if (!t13) = true then some true else (if 0 ≤ y3 ∧ y3 < (l0.length : Int) then (if ((l0.getD y3.toNat z39).f0) ≥ a1 then some true else (if y3 > 0 then (if 0 ≤ (IntKind.i64.wrap (y3 - 1)) ∧ (IntKind.i64.wrap (y3 - 1)) < (l0.length : Int) then (if 0 ≤ y3 ∧ y3 < (l0.length : Int) then ((grapevineref4_Before (⟨(l0.getD (IntKind.i64.wrap (y3 - 1)).toNat z39).f0, (l0.getD (IntKind.i64.wrap (y3 - 1)).toNat z39).f1⟩ : T35) (⟨(l0.getD y3.toNat z39).f0, (l0.getD y3.toNat z39).f1⟩ : T35)).bind fun t23 => some (!t23)) else none) else none) else some false)) else none))) else none).bind fun s10 => (if s10 = true then some (Sum.inl false) else grapevineref20_records_l0 l0 a1 k (IntKind.i64.wrap (y3 + 1)))) else some (Sum.inr ())))
def grapevineref20_records (k : Nat) (l0 : List T39) (a1 : Int) : Option Bool := ((grapevineref20_records_l0 l0 a1 k 0).bind fun os1 => match os1 with | Sum.inl r => some r | Sum.inr s1 => some (decide ((l0.length : Int) ≤ 5)))
set_option maxHeartbeats 4000000 in
theorem grapevineref20_records_calls {B : World} {G : GMap} {Γ : List Chunk} {W : World} (HT : Tabs B G) (k : Nat) (l0 : List T39) (a1 : Int) (Al0 : Option Addr) (cl0 : Nat) (Hl0 : Rd k39 G Al0 cl0 l0) (r : Bool) (h : grapevineref20_records k l0 a1 = some r) (hI : Inv B G (Γ) W) :
    Calls Tryd.prog 63 [.slice Al0 l0.length cl0, .int .i64 a1].toArray W (Ret B (fun v G' Γ' => v = .bool r ∧ G = G' ∧ Γ = Γ')) := by
  refine calls_WP (Γ := Γ) (G := G) (B := B) Tryd.func63 rfl (by kernel_rfl) ?_ hI
  clear hI
  unfold grapevineref20_records at h
  refine WP.seqP [0, 1] (L' := [(0, .slice Al0 l0.length cl0), (1, .int .i64 a1)]) (by kernel_rfl) ?_
  refine WP.seq ?_
  refine WP.seqP [0, 1, 5] (L' := [(0, .slice Al0 l0.length cl0), (1, .int .i64 a1), (5, .int .i64 0)]) (by kernel_rfl) ?_
  rw [Option.bind_eq_some_iff] at h
  obtain ⟨os1, h, hk2⟩ := h
  refine WP.cutQ (fun L' G' Γ' => ∃ s1 : Unit, Sum.inr s1 = os1 ∧ L' = [(0, .slice Al0 l0.length cl0)] ∧ G = G' ∧ Γ = Γ') ?_ ?_
  · skip
    refine WP.block ?_
    refine WP.pick [0, 1, 5] ?_
    refine WP.loopF (fun kn4 L' G' Γ' => ∃ (y3 : Int), grapevineref20_records_l0 l0 a1 kn4 y3 = some os1 ∧ L' = [(0, .slice Al0 l0.length cl0), (1, .int .i64 a1), (5, .int .i64 y3)] ∧ G = G' ∧ Γ = Γ') ?_ k ⟨0, h, rfl, rfl, rfl⟩
    clear h
    rintro kn5 _ _ _ ⟨y3, h, rfl, rfl, rfl⟩
    cases kn5 with
    | zero => exact absurd h (by simp [grapevineref20_records_l0])
    | succ kn5 =>
      simp only [grapevineref20_records_l0] at h
      refine WP.seq ?_
      rw [Option.bind_eq_some_iff] at h
      obtain ⟨os6, h, hk7⟩ := h
      refine WP.cut (fun L' G' Γ' => ∃ s6 : Bool, s6 = os6 ∧ L' = [(0, .slice Al0 l0.length cl0), (1, .int .i64 a1), (5, .int .i64 y3), (14, .bool s6)] ∧ G = G' ∧ Γ = Γ') ?_ ?_
      · clear hk7
        refine WP.region ?_
        refine WL.pure 0 5 [0, 1, 5, 10] (L' := [(0, .slice Al0 l0.length cl0), (1, .int .i64 a1), (5, .int .i64 y3), (10, .bool (decide (y3 < (l0.length : Int))))]) (by kernel_rfl) (by decide) ?_
        refine WL.split 10 (b := decide (y3 < (l0.length : Int))) (by kernel_rfl) (fun hc => ?_) (fun hc => ?_)
        · replace hc := of_decide_eq_true hc
          rw [if_pos hc] at h
          have hc8 := hc
          clear hc
          refine WL.rest 5 [0, 1, 5, 14] (L' := [(0, .slice Al0 l0.length cl0), (1, .int .i64 a1), (5, .int .i64 y3), (14, .bool (decide ((l0.length : Int) ≤ 5)))]) (by kernel_rfl) ?_
          refine QP.pick [0, 1, 5, 14] ?_
          exact QP.meet ⟨_, Option.some.inj h, rfl, rfl, rfl⟩
        · replace hc := of_decide_eq_false hc
          rw [if_neg hc] at h
          have hc8 := hc
          clear hc
          refine WL.rest 5 [0, 1, 5, 14] (L' := [(0, .slice Al0 l0.length cl0), (1, .int .i64 a1), (5, .int .i64 y3), (14, .bool false)]) (by kernel_rfl) ?_
          refine QP.pick [0, 1, 5, 14] ?_
          exact QP.meet ⟨_, Option.some.inj h, rfl, rfl, rfl⟩
      · rintro _ _ _ ⟨s6, rfl, rfl, rfl, rfl⟩
        clear h
        replace h := hk7
        refine WP.cond (b := s6) (by kernel_rfl) (fun hc => ?_) (fun hc => ?_)
        · replace hc := hc
          rw [if_pos hc] at h
          have hc9 := hc
          clear hc
          refine WP.skip ?_
          refine QP.next ?_
          refine WP.pick [0, 1, 5] ?_
          refine WP.seq ?_
          refine WP.block ?_
          rw [Option.bind_eq_some_iff] at h
          obtain ⟨os10, h, hk11⟩ := h
          refine WP.cut (fun L' G' Γ' => ∃ s10 : Bool, s10 = os10 ∧ L' = [(0, .slice Al0 l0.length cl0), (1, .int .i64 a1), (5, .int .i64 y3), (51, .bool s10)] ∧ G = G' ∧ Γ = Γ') ?_ ?_
          · clear hk11
            skip
            refine WP.any (N := 35) (S := [⟨some 17, [0], []⟩, ⟨some 18, [5], []⟩, ⟨some 19, [17, 18], [0, 1]⟩, ⟨some 20, [19], [2]⟩, ⟨some 21, [20], [3]⟩, ⟨some 22, [21], [4]⟩, ⟨some 23, [22], [4, 5]⟩, ⟨some 24, [0, 23], [6]⟩, ⟨some 25, [5, 23], [6]⟩, ⟨some 26, [23, 24, 25], [6, 7, 8]⟩, ⟨some 27, [23, 26], [6, 9]⟩, ⟨some 28, [23, 27], [6, 10]⟩, ⟨some 29, [23, 28], [6, 11]⟩, ⟨some 30, [1, 23], [6]⟩, ⟨some 31, [23, 29, 30], [6, 12, 13]⟩, ⟨some 32, [23, 31], [6, 14]⟩, ⟨some 33, [32], [6, 15]⟩, ⟨some 34, [5, 33], [16]⟩, ⟨some 35, [33, 34], [16, 17]⟩, ⟨some 36, [33, 35], [16, 18]⟩, ⟨some 37, [0, 36], [19]⟩, ⟨some 38, [5, 36], [19]⟩, ⟨some 39, [36, 38], [19, 21]⟩, ⟨some 40, [36, 37, 39], [19, 20, 22]⟩, ⟨some 41, [36, 40], [19, 23]⟩, ⟨some 42, [36, 41], [19, 24]⟩, ⟨some 43, [0, 36], [19]⟩, ⟨some 44, [5, 36], [19]⟩, ⟨some 45, [36, 43, 44], [19, 26, 27]⟩, ⟨some 46, [36, 45], [19, 28]⟩, ⟨some 47, [36, 46], [19, 29]⟩, ⟨some 48, [36, 42, 47], [19, 25, 30]⟩, ⟨some 49, [36, 48], [19, 31]⟩, ⟨some 50, [33, 36, 49], [16, 19, 32]⟩, ⟨some 51, [33, 50], [16, 33]⟩]) (kw := 35) (G0 := G) (Γ0 := Γ) mo (by kernel_rfl) (fun hS => ?_)
            refine WA.pure [0, 1] [0, 1, 5, 17, 18] (m := 33) (b' := 3) (L' := [(0, .slice Al0 l0.length cl0), (1, .int .i64 a1), (5, .int .i64 y3), (17, .slice Al0 l0.length cl0), (18, .int .i64 y3)]) (by kernel_rfl) (NoPanic.then (NoPanic.block (NoPanic.then (NoPanic.then (NoPanic.block (NoPanic.then (NoPanic.then (NoPanic.body)))))))) Under.refl hS (by kernel_rfl) ?_
            by_cases hb12 : 0 ≤ y3 ∧ y3 < (l0.length : Int)
            case neg => rw [if_neg hb12] at h; cases h
            rw [if_pos hb12] at h
            refine WA.tellD [] (i := 2) (m := 32) (b' := 7) (by kernel_rfl) (NoPanic.then (NoPanic.block (NoPanic.then (NoPanic.then (NoPanic.block (NoPanic.then (NoPanic.then (NoPanic.body)))))))) Under.refl hS (by kernel_rfl) (op := .indexAddr 52 (.tmp 17) (.tmp 18)) (ty := 0) (d := some 19) (g := none) (by kernel_rfl) (by kernel_rfl) (by kernel_rfl) (Tells.indexAddr (A := Al0) (n := l0.length) (c := cl0) (k := .i64) (j := y3) (by kernel_rfl) (by kernel_rfl) (Hl0.isSome hb12.1 hb12.2) hb12.1 hb12.2 sl52) ?_
            refine WA.tellDE [] (i := 3) (m := 31) (b' := 15) (by kernel_rfl) (NoPanic.then (NoPanic.block (NoPanic.then (NoPanic.then (NoPanic.block (NoPanic.then (NoPanic.then (NoPanic.body)))))))) Under.refl hS (by kernel_rfl) (op := .load 39 (.tmp 19)) (ty := 39) (d := some 20) (g := none) (by kernel_rfl) (by kernel_rfl) (by kernel_rfl) (Hl0.load (agg := true) hb12.1 hb12.2 z39 ag39 (fun h => by cases h) (by kernel_rfl)) ?_
            rintro _ rfl
            rw [Option.bind_eq_some_iff] at h
            obtain ⟨t13, ht14, h⟩ := h
            refine WA.op (i := 4) (m := 30) (b' := 31) (by kernel_rfl) hS (by kernel_rfl) (op := .call { callee := (.value (.func 85)), args := #[(.tmp 20)], argTypes := #[39] }) (ty := 4) (d := some 21) (g := none) (by kernel_rfl) (by kernel_rfl) (by kernel_rfl) (Does.call (f := 85) (args := [.agg #[.int .i64 ((l0.getD y3.toNat z39).f0), .int .i64 ((l0.getD y3.toNat z39).f1), .int .i64 ((l0.getD y3.toNat z39).f2), .int .i64 ((l0.getD y3.toNat z39).f3), .string ((l0.getD y3.toNat z39).f4)]]) (by kernel_rfl) (fun W hI => (grapevineref4_May_calls HT (l0.getD y3.toNat z39)  t13 ht14 hI))) ?_
            rintro _ _ _ ⟨rfl, rfl, rfl⟩
            refine ⟨_, _, Under.refl, Under.refl, ?_⟩
            refine WA.pure [5, 6] [0, 1, 5, 23] (m := 28) (b' := 127) (L' := [(0, .slice Al0 l0.length cl0), (1, .int .i64 a1), (5, .int .i64 y3), (23, .bool (!t13))]) (by kernel_rfl) (NoPanic.then (NoPanic.block (NoPanic.then (NoPanic.then (NoPanic.block (NoPanic.then (NoPanic.then (NoPanic.body)))))))) Under.refl hS (by kernel_rfl) ?_
            refine WA.split 23 (b := (!t13)) (by kernel_rfl) (fun hc => ?_) (fun hc => ?_)
            · replace hc := hc
              rw [if_pos hc] at h
              have hc17 := hc
              clear hc
              refine WA.pure [7, 8, 9, 10, 11, 12, 13, 14, 15, 16, 17, 18, 19, 20, 21, 22, 23, 24, 25, 26, 27, 28, 29, 30, 31, 32, 33, 34] [0, 1, 5, 51] (m := 0) (b' := 34359738367) (L' := [(0, .slice Al0 l0.length cl0), (1, .int .i64 a1), (5, .int .i64 y3), (51, .bool true)]) (by kernel_rfl) (NoPanic.then (NoPanic.block (NoPanic.then (NoPanic.then (NoPanic.block (NoPanic.then (NoPanic.then (NoPanic.body)))))))) Under.refl hS (by kernel_rfl) ?_
              refine WA.done hS (by kernel_rfl) ?_
              refine QP.pick [0, 1, 5, 51] ?_
              refine QP.pick [0, 1, 5, 51] ?_
              exact QP.meet ⟨_, Option.some.inj h, rfl, rfl, rfl⟩
            · replace hc := (Bool.eq_false_iff.1 hc)
              rw [if_neg hc] at h
              have hc17 := hc
              clear hc
              refine WA.pure [7, 8, 13] [0, 1, 5, 23, 24, 25, 30] (m := 25) (b' := 8703) (L' := [(0, .slice Al0 l0.length cl0), (1, .int .i64 a1), (5, .int .i64 y3), (23, .bool false), (24, .slice Al0 l0.length cl0), (25, .int .i64 y3), (30, .int .i64 a1)]) (by kernel_rfl) (NoPanic.then (NoPanic.block (NoPanic.then (NoPanic.then (NoPanic.block (NoPanic.then (NoPanic.then (NoPanic.body)))))))) Under.refl hS (by kernel_rfl) ?_
              by_cases hb18 : 0 ≤ y3 ∧ y3 < (l0.length : Int)
              case neg => rw [if_neg hb18] at h; cases h
              rw [if_pos hb18] at h
              refine WA.tellD [] (i := 9) (m := 24) (b' := 9215) (by kernel_rfl) (NoPanic.then (NoPanic.block (NoPanic.then (NoPanic.then (NoPanic.block (NoPanic.then (NoPanic.then (NoPanic.body)))))))) Under.refl hS (by kernel_rfl) (op := .indexAddr 52 (.tmp 24) (.tmp 25)) (ty := 0) (d := some 26) (g := some (6, false)) (by kernel_rfl) (by kernel_rfl) (by kernel_rfl) (Tells.indexAddr (A := Al0) (n := l0.length) (c := cl0) (k := .i64) (j := y3) (by kernel_rfl) (by kernel_rfl) (Hl0.isSome hb18.1 hb18.2) hb18.1 hb18.2 sl52) ?_
              refine WA.tellD [] (i := 10) (m := 23) (b' := 10239) (by kernel_rfl) (NoPanic.then (NoPanic.block (NoPanic.then (NoPanic.then (NoPanic.block (NoPanic.then (NoPanic.then (NoPanic.body)))))))) Under.refl hS (by kernel_rfl) (op := .fieldAddr 39 (.tmp 26) 0) (ty := 0) (d := some 27) (g := some (6, false)) (by kernel_rfl) (by kernel_rfl) (by kernel_rfl) (Tells.fieldElem (m := y3.toNat * 5) (A := Al0) (by kernel_rfl) (Hl0.isSome hb18.1 hb18.2) fi39_0) ?_
              refine WA.tellD [] (i := 11) (m := 22) (b' := 12287) (by kernel_rfl) (NoPanic.then (NoPanic.block (NoPanic.then (NoPanic.then (NoPanic.block (NoPanic.then (NoPanic.then (NoPanic.body)))))))) Under.refl hS (by kernel_rfl) (op := .fieldAddr 35 (.tmp 27) 0) (ty := 0) (d := some 28) (g := some (6, false)) (by kernel_rfl) (by kernel_rfl) (by kernel_rfl) (Tells.fieldElem (m := y3.toNat * 5 + 0) (A := Al0) (by kernel_rfl) (Hl0.isSome hb18.1 hb18.2) fi35_0) ?_
              refine WA.tellDE [] (i := 12) (m := 21) (b' := 16383) (by kernel_rfl) (NoPanic.then (NoPanic.block (NoPanic.then (NoPanic.then (NoPanic.block (NoPanic.then (NoPanic.then (NoPanic.body)))))))) Under.refl hS (by kernel_rfl) (op := .load 3 (.tmp 28)) (ty := 3) (d := some 29) (g := some (6, false)) (by kernel_rfl) (by kernel_rfl) (by kernel_rfl) (Hl0.loadF (agg := false) (off := 0) hb18.1 hb18.2 z39 ag3 (fun _ => rfl) (by decide) (by kernel_rfl)) ?_
              rintro _ rfl
              refine WA.pure [14, 15, 16] [0, 1, 5, 33] (m := 18) (b' := 131071) (L' := [(0, .slice Al0 l0.length cl0), (1, .int .i64 a1), (5, .int .i64 y3), (33, .bool (decide (((l0.getD y3.toNat z39).f0) ≥ a1)))]) (by kernel_rfl) (NoPanic.then (NoPanic.block (NoPanic.then (NoPanic.then (NoPanic.block (NoPanic.then (NoPanic.then (NoPanic.body)))))))) Under.refl hS (by kernel_rfl) ?_
              refine WA.split 33 (b := decide (((l0.getD y3.toNat z39).f0) ≥ a1)) (by kernel_rfl) (fun hc => ?_) (fun hc => ?_)
              · replace hc := of_decide_eq_true hc
                rw [if_pos hc] at h
                have hc19 := hc
                clear hc
                refine WA.pure [17, 18, 19, 20, 21, 22, 23, 24, 25, 26, 27, 28, 29, 30, 31, 32, 33, 34] [0, 1, 5, 51] (m := 0) (b' := 34359738367) (L' := [(0, .slice Al0 l0.length cl0), (1, .int .i64 a1), (5, .int .i64 y3), (51, .bool true)]) (by kernel_rfl) (NoPanic.then (NoPanic.block (NoPanic.then (NoPanic.then (NoPanic.block (NoPanic.then (NoPanic.then (NoPanic.body)))))))) Under.refl hS (by kernel_rfl) ?_
                refine WA.done hS (by kernel_rfl) ?_
                refine QP.pick [0, 1, 5, 51] ?_
                refine QP.pick [0, 1, 5, 51] ?_
                exact QP.meet ⟨_, Option.some.inj h, rfl, rfl, rfl⟩
              · replace hc := of_decide_eq_false hc
                rw [if_neg hc] at h
                have hc19 := hc
                clear hc
                refine WA.pure [17, 18, 19] [0, 1, 5, 33, 36] (m := 15) (b' := 1048575) (L' := [(0, .slice Al0 l0.length cl0), (1, .int .i64 a1), (5, .int .i64 y3), (33, .bool false), (36, .bool (decide (y3 > 0)))]) (by kernel_rfl) (NoPanic.then (NoPanic.block (NoPanic.then (NoPanic.then (NoPanic.block (NoPanic.then (NoPanic.then (NoPanic.body)))))))) Under.refl hS (by kernel_rfl) ?_
                refine WA.split 36 (b := decide (y3 > 0)) (by kernel_rfl) (fun hc => ?_) (fun hc => ?_)
                · replace hc := of_decide_eq_true hc
                  rw [if_pos hc] at h
                  have hc20 := hc
                  clear hc
                  refine WA.pure [20, 21, 22, 26, 27] [0, 1, 5, 33, 36, 37, 39, 43, 44] (m := 10) (b' := 209715199) (L' := [(0, .slice Al0 l0.length cl0), (1, .int .i64 a1), (5, .int .i64 y3), (33, .bool false), (36, .bool true), (37, .slice Al0 l0.length cl0), (39, .int .i64 (IntKind.i64.wrap (y3 - 1))), (43, .slice Al0 l0.length cl0), (44, .int .i64 y3)]) (by kernel_rfl) (NoPanic.then (NoPanic.block (NoPanic.then (NoPanic.then (NoPanic.block (NoPanic.then (NoPanic.then (NoPanic.body)))))))) Under.refl hS (by kernel_rfl) ?_
                  by_cases hb21 : 0 ≤ (IntKind.i64.wrap (y3 - 1)) ∧ (IntKind.i64.wrap (y3 - 1)) < (l0.length : Int)
                  case neg => rw [if_neg hb21] at h; cases h
                  rw [if_pos hb21] at h
                  refine WA.tellD [] (i := 23) (m := 9) (b' := 218103807) (by kernel_rfl) (NoPanic.then (NoPanic.block (NoPanic.then (NoPanic.then (NoPanic.block (NoPanic.then (NoPanic.then (NoPanic.body)))))))) Under.refl hS (by kernel_rfl) (op := .indexAddr 52 (.tmp 37) (.tmp 39)) (ty := 0) (d := some 40) (g := some (19, true)) (by kernel_rfl) (by kernel_rfl) (by kernel_rfl) (Tells.indexAddr (A := Al0) (n := l0.length) (c := cl0) (k := .i64) (j := (IntKind.i64.wrap (y3 - 1))) (by kernel_rfl) (by kernel_rfl) (Hl0.isSome hb21.1 hb21.2) hb21.1 hb21.2 sl52) ?_
                  refine WA.tellD [] (i := 24) (m := 8) (b' := 234881023) (by kernel_rfl) (NoPanic.then (NoPanic.block (NoPanic.then (NoPanic.then (NoPanic.block (NoPanic.then (NoPanic.then (NoPanic.body)))))))) Under.refl hS (by kernel_rfl) (op := .fieldAddr 39 (.tmp 40) 0) (ty := 0) (d := some 41) (g := some (19, true)) (by kernel_rfl) (by kernel_rfl) (by kernel_rfl) (Tells.fieldElem (m := (IntKind.i64.wrap (y3 - 1)).toNat * 5) (A := Al0) (by kernel_rfl) (Hl0.isSome hb21.1 hb21.2) fi39_0) ?_
                  refine WA.tellDE [] (i := 25) (m := 7) (b' := 268435455) (by kernel_rfl) (NoPanic.then (NoPanic.block (NoPanic.then (NoPanic.then (NoPanic.block (NoPanic.then (NoPanic.then (NoPanic.body)))))))) Under.refl hS (by kernel_rfl) (op := .load 35 (.tmp 41)) (ty := 35) (d := some 42) (g := some (19, true)) (by kernel_rfl) (by kernel_rfl) (by kernel_rfl) (Hl0.loadF (agg := true) (off := 0) hb21.1 hb21.2 z39 ag35 (fun h => by cases h) (by decide) (by kernel_rfl)) ?_
                  rintro _ rfl
                  by_cases hb22 : 0 ≤ y3 ∧ y3 < (l0.length : Int)
                  case neg => rw [if_neg hb22] at h; cases h
                  rw [if_pos hb22] at h
                  refine WA.tellD [] (i := 28) (m := 6) (b' := 536870911) (by kernel_rfl) (NoPanic.then (NoPanic.block (NoPanic.then (NoPanic.then (NoPanic.block (NoPanic.then (NoPanic.then (NoPanic.body)))))))) Under.refl hS (by kernel_rfl) (op := .indexAddr 52 (.tmp 43) (.tmp 44)) (ty := 0) (d := some 45) (g := some (19, true)) (by kernel_rfl) (by kernel_rfl) (by kernel_rfl) (Tells.indexAddr (A := Al0) (n := l0.length) (c := cl0) (k := .i64) (j := y3) (by kernel_rfl) (by kernel_rfl) (Hl0.isSome hb22.1 hb22.2) hb22.1 hb22.2 sl52) ?_
                  refine WA.tellD [] (i := 29) (m := 5) (b' := 1073741823) (by kernel_rfl) (NoPanic.then (NoPanic.block (NoPanic.then (NoPanic.then (NoPanic.block (NoPanic.then (NoPanic.then (NoPanic.body)))))))) Under.refl hS (by kernel_rfl) (op := .fieldAddr 39 (.tmp 45) 0) (ty := 0) (d := some 46) (g := some (19, true)) (by kernel_rfl) (by kernel_rfl) (by kernel_rfl) (Tells.fieldElem (m := y3.toNat * 5) (A := Al0) (by kernel_rfl) (Hl0.isSome hb22.1 hb22.2) fi39_0) ?_
                  refine WA.tellDE [] (i := 30) (m := 4) (b' := 2147483647) (by kernel_rfl) (NoPanic.then (NoPanic.block (NoPanic.then (NoPanic.then (NoPanic.block (NoPanic.then (NoPanic.then (NoPanic.body)))))))) Under.refl hS (by kernel_rfl) (op := .load 35 (.tmp 46)) (ty := 35) (d := some 47) (g := some (19, true)) (by kernel_rfl) (by kernel_rfl) (by kernel_rfl) (Hl0.loadF (agg := true) (off := 0) hb22.1 hb22.2 z39 ag35 (fun h => by cases h) (by decide) (by kernel_rfl)) ?_
                  rintro _ rfl
                  rw [Option.bind_eq_some_iff] at h
                  obtain ⟨t23, ht24, h⟩ := h
                  refine WA.op (i := 31) (m := 3) (b' := 4294967295) (by kernel_rfl) hS (by kernel_rfl) (op := .call { callee := (.value (.func 87)), args := #[(.tmp 42), (.tmp 47)], argTypes := #[35, 35] }) (ty := 4) (d := some 48) (g := some (19, true)) (by kernel_rfl) (by kernel_rfl) (by kernel_rfl) (Does.call (f := 87) (args := [.agg #[.int .i64 ((l0.getD (IntKind.i64.wrap (y3 - 1)).toNat z39).f0), .int .i64 ((l0.getD (IntKind.i64.wrap (y3 - 1)).toNat z39).f1)], .agg #[.int .i64 ((l0.getD y3.toNat z39).f0), .int .i64 ((l0.getD y3.toNat z39).f1)]]) (by kernel_rfl) (fun W hI => (grapevineref4_Before_calls (⟨(l0.getD (IntKind.i64.wrap (y3 - 1)).toNat z39).f0, (l0.getD (IntKind.i64.wrap (y3 - 1)).toNat z39).f1⟩ : T35) (⟨(l0.getD y3.toNat z39).f0, (l0.getD y3.toNat z39).f1⟩ : T35)  t23 ht24 hI))) ?_
                  rintro _ _ _ ⟨rfl, rfl, rfl⟩
                  refine ⟨_, _, Under.refl, Under.refl, ?_⟩
                  refine WA.pure [32, 33, 34] [0, 1, 5, 51] (m := 0) (b' := 34359738367) (L' := [(0, .slice Al0 l0.length cl0), (1, .int .i64 a1), (5, .int .i64 y3), (51, .bool (!t23))]) (by kernel_rfl) (NoPanic.then (NoPanic.block (NoPanic.then (NoPanic.then (NoPanic.block (NoPanic.then (NoPanic.then (NoPanic.body)))))))) Under.refl hS (by kernel_rfl) ?_
                  refine WA.done hS (by kernel_rfl) ?_
                  refine QP.pick [0, 1, 5, 51] ?_
                  refine QP.pick [0, 1, 5, 51] ?_
                  exact QP.meet ⟨_, Option.some.inj h, rfl, rfl, rfl⟩
                · replace hc := of_decide_eq_false hc
                  rw [if_neg hc] at h
                  have hc20 := hc
                  clear hc
                  refine WA.pure [20, 21, 22, 23, 24, 25, 26, 27, 28, 29, 30, 31, 32, 33, 34] [0, 1, 5, 51] (m := 0) (b' := 34359738367) (L' := [(0, .slice Al0 l0.length cl0), (1, .int .i64 a1), (5, .int .i64 y3), (51, .bool false)]) (by kernel_rfl) (NoPanic.then (NoPanic.block (NoPanic.then (NoPanic.then (NoPanic.block (NoPanic.then (NoPanic.then (NoPanic.body)))))))) Under.refl hS (by kernel_rfl) ?_
                  refine WA.done hS (by kernel_rfl) ?_
                  refine QP.pick [0, 1, 5, 51] ?_
                  refine QP.pick [0, 1, 5, 51] ?_
                  exact QP.meet ⟨_, Option.some.inj h, rfl, rfl, rfl⟩
          · rintro _ _ _ ⟨s10, rfl, rfl, rfl, rfl⟩
            clear h
            replace h := hk11
            refine WP.cond (b := s10) (by kernel_rfl) (fun hc => ?_) (fun hc => ?_)
            · replace hc := hc
              rw [if_pos hc] at h
              have hc27 := hc
              clear hc
              refine WP.seqP [4] (L' := [(4, .bool false)]) (by kernel_rfl) ?_
              refine WP.ret ?_
              refine QP.blockR ?_
              refine QP.thenR ?_
              refine QP.thenR ?_
              refine QP.blockR ?_
              refine QP.thenR ?_
              refine QP.thenR ?_
              obtain rfl := Option.some.inj h
              obtain rfl := Option.some.inj (show some _ = some _ from hk2)
              exact QP.returned [4] [.bool false] _ (by kernel_rfl) (by kernel_rfl) (by kernel_rfl) (fun W hI => ⟨_, _, _, rfl, ⟨rfl, rfl, rfl⟩, hI⟩)
            · replace hc := (Bool.eq_false_iff.1 hc)
              rw [if_neg hc] at h
              have hc27 := hc
              clear hc
              refine WP.skip ?_
              refine QP.blockN ?_
              refine QP.next ?_
              refine WP.pick [0, 1, 5] ?_
              refine WP.regionP [0, 1, 5] (L' := [(0, .slice Al0 l0.length cl0), (1, .int .i64 a1), (5, .int .i64 (IntKind.i64.wrap (y3 + 1)))]) (by kernel_rfl) ?_
              refine QP.pick [0, 1, 5] ?_
              exact QP.meet ⟨kn5, Nat.lt_succ_self _, (IntKind.i64.wrap (y3 + 1)), h, rfl, rfl, rfl⟩
        · replace hc := (Bool.eq_false_iff.1 hc)
          rw [if_neg hc] at h
          have hc9 := hc
          clear hc
          refine WP.exit ?_
          refine QP.thenE ?_
          refine QP.thenE ?_
          refine QP.blockE ?_
          refine QP.pick [0] ?_
          exact QP.meet ⟨_, Option.some.inj h, rfl, rfl, rfl⟩
  · rintro _ _ _ ⟨s1, rfl, rfl, rfl, rfl⟩
    clear h
    replace h := hk2
    refine QP.next ?_
    refine WP.pick [0] ?_
    refine WP.seqP [4] (L' := [(4, .bool (decide ((l0.length : Int) ≤ 5)))]) (by kernel_rfl) ?_
    refine WP.ret ?_
    obtain rfl := Option.some.inj h
    exact QP.returned [4] [.bool (decide ((l0.length : Int) ≤ 5))] _ (by kernel_rfl) (by kernel_rfl) (by kernel_rfl) (fun W hI => ⟨_, _, _, rfl, ⟨rfl, rfl, rfl⟩, hI⟩)

/-! ### grapevine/grapevineref20.May: function 30 -/
def grapevineref20_May (k : Nat) (a0 : T54) (a1 : Int) : Option Bool := ((if ¬ a0.f0 = 1 then (if ¬ a0.f0 = 2 then some true else (if a0.f1 < 0 then some true else (if a0.f2 < 0 then some true else (if a0.f1 ≥ a1 then some true else (if a0.f2 ≥ a1 then some true else some (a0.f1 == a0.f2)))))) else (if a0.f1 < 0 then some true else (if a0.f2 < 0 then some true else (if a0.f1 ≥ a1 then some true else (if a0.f2 ≥ a1 then some true else some (a0.f1 == a0.f2)))))).bind fun s2 => (if s2 = true then some false else (((grapevineref3_May k a0.f3 a1).bind fun t17 => (if (!t17) = true then some true else ((grapevineref3_May k a0.f4 a1).bind fun t22 => (if (!t22) = true then some true else ((grapevineref3_Below k a0.f4 a0.f3).bind fun t27 => some (!t27)))))).bind fun s15 => (if s15 = true then some false else (((grapevineref20_records k a0.f5 a1).bind fun t34 => (if t34 = true then (if a0.f0 = 2 then some true else some ((a0.f5.length : Int) == 0)) else some false)).bind fun s32 => some s32)))))
set_option maxHeartbeats 4000000 in
theorem grapevineref20_May_calls {B : World} {G : GMap} {Γ : List Chunk} {W : World} (HT : Tabs B G) (k : Nat) (a0 : T54) (a1 : Int) (Aa0_f3 : Option Addr) (ca0_f3 : Nat) (Ha0_f3 : Rd (kInt .i64) G Aa0_f3 ca0_f3 a0.f3) (Aa0_f4 : Option Addr) (ca0_f4 : Nat) (Ha0_f4 : Rd (kInt .i64) G Aa0_f4 ca0_f4 a0.f4) (Aa0_f5 : Option Addr) (ca0_f5 : Nat) (Ha0_f5 : Rd k39 G Aa0_f5 ca0_f5 a0.f5) (r : Bool) (h : grapevineref20_May k a0 a1 = some r) (hI : Inv B G (Γ) W) :
    Calls Tryd.prog 30 [.agg #[.int .i64 a0.f0, .int .i64 a0.f1, .int .i64 a0.f2, .slice Aa0_f3 a0.f3.length ca0_f3, .slice Aa0_f4 a0.f4.length ca0_f4, .slice Aa0_f5 a0.f5.length ca0_f5], .int .i64 a1].toArray W (Ret B (fun v G' Γ' => v = .bool r ∧ G = G' ∧ Γ = Γ')) := by
  refine calls_WP (Γ := Γ) (G := G) (B := B) Tryd.func30 rfl (by kernel_rfl) ?_ hI
  clear hI
  unfold grapevineref20_May at h
  refine WP.seqR ?_
  refine WL.op (op := .box 54 (.tmp 0)) (ty := 0) (d := some 2) (g := none) (by kernel_rfl) (by kernel_rfl) (by kernel_rfl) (Does.new (o := .cells #[.int .i64 a0.f0, .int .i64 a0.f1, .int .i64 a0.f2, .slice Aa0_f3 a0.f3.length ca0_f3, .slice Aa0_f4 a0.f4.length ca0_f4, .slice Aa0_f5 a0.f5.length ca0_f5] 54 (0, 0)) (v := fun r => .pointer (some ⟨r, 0, none⟩)) (fun r => by kernel_rfl)) ?_
  rintro _ _ _ ⟨b1, rfl, rfl, rfl⟩
  refine WL.restQ 1 [1, 2] (L' := [(1, .int .i64 a1), (2, .pointer (some ⟨b1, 0, none⟩))]) (by kernel_rfl) ?_
  refine WP.seq ?_
  rw [Option.bind_eq_some_iff] at h
  obtain ⟨os2, h, hk3⟩ := h
  refine WP.cut (fun L' G' Γ' => ∃ s2 : Bool, s2 = os2 ∧ L' = [(1, .int .i64 a1), (2, .pointer (some ⟨b1, 0, none⟩)), (41, .bool s2)] ∧ G = G' ∧ [(b1, .cells #[.int .i64 a0.f0, .int .i64 a0.f1, .int .i64 a0.f2, .slice Aa0_f3 a0.f3.length ca0_f3, .slice Aa0_f4 a0.f4.length ca0_f4, .slice Aa0_f5 a0.f5.length ca0_f5] 54 (0, 0))] :: Γ = Γ') ?_ ?_
  · clear hk3
    refine WP.region ?_
    refine WL.pure 0 1 [1, 2, 5] (L' := [(1, .int .i64 a1), (2, .pointer (some ⟨b1, 0, none⟩)), (5, .pointer (some ⟨b1, 0, none⟩))]) (by kernel_rfl) (by decide) ?_
    refine WL.tell (op := .load 3 (.tmp 5)) (ty := 3) (d := some 6) (g := none) (by kernel_rfl) (by kernel_rfl) (by kernel_rfl) (Tells.load_box (i := 0) (b := b1) (o := 0) (agg := false) (by rfl) ag3 (by kernel_rfl) (fun _ => rfl) (Nat.le_of_ble_eq_true rfl) (v := .int .i64 a0.f0) (by kernel_rfl)) ?_
    refine WL.pure 2 4 [1, 2, 8] (L' := [(1, .int .i64 a1), (2, .pointer (some ⟨b1, 0, none⟩)), (8, .bool (a0.f0 != 1))]) (by kernel_rfl) (by decide) ?_
    refine WL.split 8 (b := (a0.f0 != 1)) (by kernel_rfl) (fun hc => ?_) (fun hc => ?_)
    · replace hc := (bne_iff_ne.1 hc)
      rw [if_pos hc] at h
      have hc4 := hc
      clear hc
      refine WL.pure 4 5 [1, 2, 8, 9] (L' := [(1, .int .i64 a1), (2, .pointer (some ⟨b1, 0, none⟩)), (8, .bool true), (9, .pointer (some ⟨b1, 0, none⟩))]) (by kernel_rfl) (by decide) ?_
      refine WL.tell (op := .load 3 (.tmp 9)) (ty := 3) (d := some 10) (g := some (3, true)) (by kernel_rfl) (by kernel_rfl) (by kernel_rfl) (Tells.load_box (i := 0) (b := b1) (o := 0) (agg := false) (by rfl) ag3 (by kernel_rfl) (fun _ => rfl) (Nat.le_of_ble_eq_true rfl) (v := .int .i64 a0.f0) (by kernel_rfl)) ?_
      refine WL.pure 6 9 [1, 2, 13] (L' := [(1, .int .i64 a1), (2, .pointer (some ⟨b1, 0, none⟩)), (13, .bool (a0.f0 != 2))]) (by kernel_rfl) (by decide) ?_
      refine WL.split 13 (b := (a0.f0 != 2)) (by kernel_rfl) (fun hc => ?_) (fun hc => ?_)
      · replace hc := (bne_iff_ne.1 hc)
        rw [if_pos hc] at h
        have hc5 := hc
        clear hc
        refine WL.rest 9 [1, 2, 41] (L' := [(1, .int .i64 a1), (2, .pointer (some ⟨b1, 0, none⟩)), (41, .bool true)]) (by kernel_rfl) ?_
        refine QP.pick [1, 2, 41] ?_
        exact QP.meet ⟨_, Option.some.inj h, rfl, rfl, rfl⟩
      · replace hc := (not_not_intro (bne_eq_false_iff_eq.1 hc))
        rw [if_neg hc] at h
        have hc5 := hc
        clear hc
        refine WL.pure 9 10 [1, 2, 13, 14] (L' := [(1, .int .i64 a1), (2, .pointer (some ⟨b1, 0, none⟩)), (13, .bool false), (14, .pointer (some ⟨b1, 1, none⟩))]) (by kernel_rfl) (by decide) ?_
        refine WL.tell (op := .load 3 (.tmp 14)) (ty := 3) (d := some 15) (g := some (8, false)) (by kernel_rfl) (by kernel_rfl) (by kernel_rfl) (Tells.load_box (i := 0) (b := b1) (o := 1) (agg := false) (by rfl) ag3 (by kernel_rfl) (fun _ => rfl) (Nat.le_of_ble_eq_true rfl) (v := .int .i64 a0.f1) (by kernel_rfl)) ?_
        refine WL.pure 11 14 [1, 2, 18] (L' := [(1, .int .i64 a1), (2, .pointer (some ⟨b1, 0, none⟩)), (18, .bool (decide (a0.f1 < 0)))]) (by kernel_rfl) (by decide) ?_
        refine WL.split 18 (b := decide (a0.f1 < 0)) (by kernel_rfl) (fun hc => ?_) (fun hc => ?_)
        · replace hc := of_decide_eq_true hc
          rw [if_pos hc] at h
          have hc6 := hc
          clear hc
          refine WL.rest 14 [1, 2, 41] (L' := [(1, .int .i64 a1), (2, .pointer (some ⟨b1, 0, none⟩)), (41, .bool true)]) (by kernel_rfl) ?_
          refine QP.pick [1, 2, 41] ?_
          exact QP.meet ⟨_, Option.some.inj h, rfl, rfl, rfl⟩
        · replace hc := of_decide_eq_false hc
          rw [if_neg hc] at h
          have hc6 := hc
          clear hc
          refine WL.pure 14 15 [1, 2, 18, 19] (L' := [(1, .int .i64 a1), (2, .pointer (some ⟨b1, 0, none⟩)), (18, .bool false), (19, .pointer (some ⟨b1, 2, none⟩))]) (by kernel_rfl) (by decide) ?_
          refine WL.tell (op := .load 3 (.tmp 19)) (ty := 3) (d := some 20) (g := some (13, false)) (by kernel_rfl) (by kernel_rfl) (by kernel_rfl) (Tells.load_box (i := 0) (b := b1) (o := 2) (agg := false) (by rfl) ag3 (by kernel_rfl) (fun _ => rfl) (Nat.le_of_ble_eq_true rfl) (v := .int .i64 a0.f2) (by kernel_rfl)) ?_
          refine WL.pure 16 19 [1, 2, 23] (L' := [(1, .int .i64 a1), (2, .pointer (some ⟨b1, 0, none⟩)), (23, .bool (decide (a0.f2 < 0)))]) (by kernel_rfl) (by decide) ?_
          refine WL.split 23 (b := decide (a0.f2 < 0)) (by kernel_rfl) (fun hc => ?_) (fun hc => ?_)
          · replace hc := of_decide_eq_true hc
            rw [if_pos hc] at h
            have hc7 := hc
            clear hc
            refine WL.rest 19 [1, 2, 41] (L' := [(1, .int .i64 a1), (2, .pointer (some ⟨b1, 0, none⟩)), (41, .bool true)]) (by kernel_rfl) ?_
            refine QP.pick [1, 2, 41] ?_
            exact QP.meet ⟨_, Option.some.inj h, rfl, rfl, rfl⟩
          · replace hc := of_decide_eq_false hc
            rw [if_neg hc] at h
            have hc7 := hc
            clear hc
            refine WL.pure 19 20 [1, 2, 23, 24] (L' := [(1, .int .i64 a1), (2, .pointer (some ⟨b1, 0, none⟩)), (23, .bool false), (24, .pointer (some ⟨b1, 1, none⟩))]) (by kernel_rfl) (by decide) ?_
            refine WL.tell (op := .load 3 (.tmp 24)) (ty := 3) (d := some 25) (g := some (18, false)) (by kernel_rfl) (by kernel_rfl) (by kernel_rfl) (Tells.load_box (i := 0) (b := b1) (o := 1) (agg := false) (by rfl) ag3 (by kernel_rfl) (fun _ => rfl) (Nat.le_of_ble_eq_true rfl) (v := .int .i64 a0.f1) (by kernel_rfl)) ?_
            refine WL.pure 21 25 [1, 2, 29] (L' := [(1, .int .i64 a1), (2, .pointer (some ⟨b1, 0, none⟩)), (29, .bool (decide (a0.f1 ≥ a1)))]) (by kernel_rfl) (by decide) ?_
            refine WL.split 29 (b := decide (a0.f1 ≥ a1)) (by kernel_rfl) (fun hc => ?_) (fun hc => ?_)
            · replace hc := of_decide_eq_true hc
              rw [if_pos hc] at h
              have hc8 := hc
              clear hc
              refine WL.rest 25 [1, 2, 41] (L' := [(1, .int .i64 a1), (2, .pointer (some ⟨b1, 0, none⟩)), (41, .bool true)]) (by kernel_rfl) ?_
              refine QP.pick [1, 2, 41] ?_
              exact QP.meet ⟨_, Option.some.inj h, rfl, rfl, rfl⟩
            · replace hc := of_decide_eq_false hc
              rw [if_neg hc] at h
              have hc8 := hc
              clear hc
              refine WL.pure 25 26 [1, 2, 29, 30] (L' := [(1, .int .i64 a1), (2, .pointer (some ⟨b1, 0, none⟩)), (29, .bool false), (30, .pointer (some ⟨b1, 2, none⟩))]) (by kernel_rfl) (by decide) ?_
              refine WL.tell (op := .load 3 (.tmp 30)) (ty := 3) (d := some 31) (g := some (24, false)) (by kernel_rfl) (by kernel_rfl) (by kernel_rfl) (Tells.load_box (i := 0) (b := b1) (o := 2) (agg := false) (by rfl) ag3 (by kernel_rfl) (fun _ => rfl) (Nat.le_of_ble_eq_true rfl) (v := .int .i64 a0.f2) (by kernel_rfl)) ?_
              refine WL.pure 27 31 [1, 2, 35] (L' := [(1, .int .i64 a1), (2, .pointer (some ⟨b1, 0, none⟩)), (35, .bool (decide (a0.f2 ≥ a1)))]) (by kernel_rfl) (by decide) ?_
              refine WL.split 35 (b := decide (a0.f2 ≥ a1)) (by kernel_rfl) (fun hc => ?_) (fun hc => ?_)
              · replace hc := of_decide_eq_true hc
                rw [if_pos hc] at h
                have hc9 := hc
                clear hc
                refine WL.rest 31 [1, 2, 41] (L' := [(1, .int .i64 a1), (2, .pointer (some ⟨b1, 0, none⟩)), (41, .bool true)]) (by kernel_rfl) ?_
                refine QP.pick [1, 2, 41] ?_
                exact QP.meet ⟨_, Option.some.inj h, rfl, rfl, rfl⟩
              · replace hc := of_decide_eq_false hc
                rw [if_neg hc] at h
                have hc9 := hc
                clear hc
                refine WL.pure 31 32 [1, 2, 35, 36] (L' := [(1, .int .i64 a1), (2, .pointer (some ⟨b1, 0, none⟩)), (35, .bool false), (36, .pointer (some ⟨b1, 1, none⟩))]) (by kernel_rfl) (by decide) ?_
                refine WL.tell (op := .load 3 (.tmp 36)) (ty := 3) (d := some 37) (g := some (30, false)) (by kernel_rfl) (by kernel_rfl) (by kernel_rfl) (Tells.load_box (i := 0) (b := b1) (o := 1) (agg := false) (by rfl) ag3 (by kernel_rfl) (fun _ => rfl) (Nat.le_of_ble_eq_true rfl) (v := .int .i64 a0.f1) (by kernel_rfl)) ?_
                refine WL.pure 33 34 [1, 2, 35, 37, 38] (L' := [(1, .int .i64 a1), (2, .pointer (some ⟨b1, 0, none⟩)), (35, .bool false), (37, .int .i64 a0.f1), (38, .pointer (some ⟨b1, 2, none⟩))]) (by kernel_rfl) (by decide) ?_
                refine WL.tell (op := .load 3 (.tmp 38)) (ty := 3) (d := some 39) (g := some (30, false)) (by kernel_rfl) (by kernel_rfl) (by kernel_rfl) (Tells.load_box (i := 0) (b := b1) (o := 2) (agg := false) (by rfl) ag3 (by kernel_rfl) (fun _ => rfl) (Nat.le_of_ble_eq_true rfl) (v := .int .i64 a0.f2) (by kernel_rfl)) ?_
                refine WL.rest 35 [1, 2, 41] (L' := [(1, .int .i64 a1), (2, .pointer (some ⟨b1, 0, none⟩)), (41, .bool (a0.f1 == a0.f2))]) (by kernel_rfl) ?_
                refine QP.pick [1, 2, 41] ?_
                exact QP.meet ⟨_, Option.some.inj h, rfl, rfl, rfl⟩
    · replace hc := (not_not_intro (bne_eq_false_iff_eq.1 hc))
      rw [if_neg hc] at h
      have hc4 := hc
      clear hc
      refine WL.pure 4 10 [1, 2, 13, 14] (L' := [(1, .int .i64 a1), (2, .pointer (some ⟨b1, 0, none⟩)), (13, .bool false), (14, .pointer (some ⟨b1, 1, none⟩))]) (by kernel_rfl) (by decide) ?_
      refine WL.tell (op := .load 3 (.tmp 14)) (ty := 3) (d := some 15) (g := some (8, false)) (by kernel_rfl) (by kernel_rfl) (by kernel_rfl) (Tells.load_box (i := 0) (b := b1) (o := 1) (agg := false) (by rfl) ag3 (by kernel_rfl) (fun _ => rfl) (Nat.le_of_ble_eq_true rfl) (v := .int .i64 a0.f1) (by kernel_rfl)) ?_
      refine WL.pure 11 14 [1, 2, 18] (L' := [(1, .int .i64 a1), (2, .pointer (some ⟨b1, 0, none⟩)), (18, .bool (decide (a0.f1 < 0)))]) (by kernel_rfl) (by decide) ?_
      refine WL.split 18 (b := decide (a0.f1 < 0)) (by kernel_rfl) (fun hc => ?_) (fun hc => ?_)
      · replace hc := of_decide_eq_true hc
        rw [if_pos hc] at h
        have hc10 := hc
        clear hc
        refine WL.rest 14 [1, 2, 41] (L' := [(1, .int .i64 a1), (2, .pointer (some ⟨b1, 0, none⟩)), (41, .bool true)]) (by kernel_rfl) ?_
        refine QP.pick [1, 2, 41] ?_
        exact QP.meet ⟨_, Option.some.inj h, rfl, rfl, rfl⟩
      · replace hc := of_decide_eq_false hc
        rw [if_neg hc] at h
        have hc10 := hc
        clear hc
        refine WL.pure 14 15 [1, 2, 18, 19] (L' := [(1, .int .i64 a1), (2, .pointer (some ⟨b1, 0, none⟩)), (18, .bool false), (19, .pointer (some ⟨b1, 2, none⟩))]) (by kernel_rfl) (by decide) ?_
        refine WL.tell (op := .load 3 (.tmp 19)) (ty := 3) (d := some 20) (g := some (13, false)) (by kernel_rfl) (by kernel_rfl) (by kernel_rfl) (Tells.load_box (i := 0) (b := b1) (o := 2) (agg := false) (by rfl) ag3 (by kernel_rfl) (fun _ => rfl) (Nat.le_of_ble_eq_true rfl) (v := .int .i64 a0.f2) (by kernel_rfl)) ?_
        refine WL.pure 16 19 [1, 2, 23] (L' := [(1, .int .i64 a1), (2, .pointer (some ⟨b1, 0, none⟩)), (23, .bool (decide (a0.f2 < 0)))]) (by kernel_rfl) (by decide) ?_
        refine WL.split 23 (b := decide (a0.f2 < 0)) (by kernel_rfl) (fun hc => ?_) (fun hc => ?_)
        · replace hc := of_decide_eq_true hc
          rw [if_pos hc] at h
          have hc11 := hc
          clear hc
          refine WL.rest 19 [1, 2, 41] (L' := [(1, .int .i64 a1), (2, .pointer (some ⟨b1, 0, none⟩)), (41, .bool true)]) (by kernel_rfl) ?_
          refine QP.pick [1, 2, 41] ?_
          exact QP.meet ⟨_, Option.some.inj h, rfl, rfl, rfl⟩
        · replace hc := of_decide_eq_false hc
          rw [if_neg hc] at h
          have hc11 := hc
          clear hc
          refine WL.pure 19 20 [1, 2, 23, 24] (L' := [(1, .int .i64 a1), (2, .pointer (some ⟨b1, 0, none⟩)), (23, .bool false), (24, .pointer (some ⟨b1, 1, none⟩))]) (by kernel_rfl) (by decide) ?_
          refine WL.tell (op := .load 3 (.tmp 24)) (ty := 3) (d := some 25) (g := some (18, false)) (by kernel_rfl) (by kernel_rfl) (by kernel_rfl) (Tells.load_box (i := 0) (b := b1) (o := 1) (agg := false) (by rfl) ag3 (by kernel_rfl) (fun _ => rfl) (Nat.le_of_ble_eq_true rfl) (v := .int .i64 a0.f1) (by kernel_rfl)) ?_
          refine WL.pure 21 25 [1, 2, 29] (L' := [(1, .int .i64 a1), (2, .pointer (some ⟨b1, 0, none⟩)), (29, .bool (decide (a0.f1 ≥ a1)))]) (by kernel_rfl) (by decide) ?_
          refine WL.split 29 (b := decide (a0.f1 ≥ a1)) (by kernel_rfl) (fun hc => ?_) (fun hc => ?_)
          · replace hc := of_decide_eq_true hc
            rw [if_pos hc] at h
            have hc12 := hc
            clear hc
            refine WL.rest 25 [1, 2, 41] (L' := [(1, .int .i64 a1), (2, .pointer (some ⟨b1, 0, none⟩)), (41, .bool true)]) (by kernel_rfl) ?_
            refine QP.pick [1, 2, 41] ?_
            exact QP.meet ⟨_, Option.some.inj h, rfl, rfl, rfl⟩
          · replace hc := of_decide_eq_false hc
            rw [if_neg hc] at h
            have hc12 := hc
            clear hc
            refine WL.pure 25 26 [1, 2, 29, 30] (L' := [(1, .int .i64 a1), (2, .pointer (some ⟨b1, 0, none⟩)), (29, .bool false), (30, .pointer (some ⟨b1, 2, none⟩))]) (by kernel_rfl) (by decide) ?_
            refine WL.tell (op := .load 3 (.tmp 30)) (ty := 3) (d := some 31) (g := some (24, false)) (by kernel_rfl) (by kernel_rfl) (by kernel_rfl) (Tells.load_box (i := 0) (b := b1) (o := 2) (agg := false) (by rfl) ag3 (by kernel_rfl) (fun _ => rfl) (Nat.le_of_ble_eq_true rfl) (v := .int .i64 a0.f2) (by kernel_rfl)) ?_
            refine WL.pure 27 31 [1, 2, 35] (L' := [(1, .int .i64 a1), (2, .pointer (some ⟨b1, 0, none⟩)), (35, .bool (decide (a0.f2 ≥ a1)))]) (by kernel_rfl) (by decide) ?_
            refine WL.split 35 (b := decide (a0.f2 ≥ a1)) (by kernel_rfl) (fun hc => ?_) (fun hc => ?_)
            · replace hc := of_decide_eq_true hc
              rw [if_pos hc] at h
              have hc13 := hc
              clear hc
              refine WL.rest 31 [1, 2, 41] (L' := [(1, .int .i64 a1), (2, .pointer (some ⟨b1, 0, none⟩)), (41, .bool true)]) (by kernel_rfl) ?_
              refine QP.pick [1, 2, 41] ?_
              exact QP.meet ⟨_, Option.some.inj h, rfl, rfl, rfl⟩
            · replace hc := of_decide_eq_false hc
              rw [if_neg hc] at h
              have hc13 := hc
              clear hc
              refine WL.pure 31 32 [1, 2, 35, 36] (L' := [(1, .int .i64 a1), (2, .pointer (some ⟨b1, 0, none⟩)), (35, .bool false), (36, .pointer (some ⟨b1, 1, none⟩))]) (by kernel_rfl) (by decide) ?_
              refine WL.tell (op := .load 3 (.tmp 36)) (ty := 3) (d := some 37) (g := some (30, false)) (by kernel_rfl) (by kernel_rfl) (by kernel_rfl) (Tells.load_box (i := 0) (b := b1) (o := 1) (agg := false) (by rfl) ag3 (by kernel_rfl) (fun _ => rfl) (Nat.le_of_ble_eq_true rfl) (v := .int .i64 a0.f1) (by kernel_rfl)) ?_
              refine WL.pure 33 34 [1, 2, 35, 37, 38] (L' := [(1, .int .i64 a1), (2, .pointer (some ⟨b1, 0, none⟩)), (35, .bool false), (37, .int .i64 a0.f1), (38, .pointer (some ⟨b1, 2, none⟩))]) (by kernel_rfl) (by decide) ?_
              refine WL.tell (op := .load 3 (.tmp 38)) (ty := 3) (d := some 39) (g := some (30, false)) (by kernel_rfl) (by kernel_rfl) (by kernel_rfl) (Tells.load_box (i := 0) (b := b1) (o := 2) (agg := false) (by rfl) ag3 (by kernel_rfl) (fun _ => rfl) (Nat.le_of_ble_eq_true rfl) (v := .int .i64 a0.f2) (by kernel_rfl)) ?_
              refine WL.rest 35 [1, 2, 41] (L' := [(1, .int .i64 a1), (2, .pointer (some ⟨b1, 0, none⟩)), (41, .bool (a0.f1 == a0.f2))]) (by kernel_rfl) ?_
              refine QP.pick [1, 2, 41] ?_
              exact QP.meet ⟨_, Option.some.inj h, rfl, rfl, rfl⟩
  · rintro _ _ _ ⟨s2, rfl, rfl, rfl, rfl⟩
    clear h
    replace h := hk3
    refine WP.cond (b := s2) (by kernel_rfl) (fun hc => ?_) (fun hc => ?_)
    · replace hc := hc
      rw [if_pos hc] at h
      have hc14 := hc
      clear hc
      refine WP.seqP [4] (L' := [(4, .bool false)]) (by kernel_rfl) ?_
      refine WP.dropAt 0 ?_
      refine WP.ret ?_
      refine QP.thenR ?_
      obtain rfl := Option.some.inj h
      exact QP.returned [4] [.bool false] _ (by kernel_rfl) (by kernel_rfl) (by kernel_rfl) (fun W hI => ⟨_, _, _, rfl, ⟨rfl, rfl, rfl⟩, hI⟩)
    · replace hc := (Bool.eq_false_iff.1 hc)
      rw [if_neg hc] at h
      have hc14 := hc
      clear hc
      refine WP.skip ?_
      refine QP.next ?_
      refine WP.pick [1, 2] ?_
      refine WP.seq ?_
      rw [Option.bind_eq_some_iff] at h
      obtain ⟨os15, h, hk16⟩ := h
      refine WP.cut (fun L' G' Γ' => ∃ s15 : Bool, s15 = os15 ∧ L' = [(1, .int .i64 a1), (2, .pointer (some ⟨b1, 0, none⟩)), (61, .bool s15)] ∧ G = G' ∧ [(b1, .cells #[.int .i64 a0.f0, .int .i64 a0.f1, .int .i64 a0.f2, .slice Aa0_f3 a0.f3.length ca0_f3, .slice Aa0_f4 a0.f4.length ca0_f4, .slice Aa0_f5 a0.f5.length ca0_f5] 54 (0, 0))] :: Γ = Γ') ?_ ?_
      · clear hk16
        refine WP.region ?_
        refine WL.pure 0 1 [1, 2, 42] (L' := [(1, .int .i64 a1), (2, .pointer (some ⟨b1, 0, none⟩)), (42, .pointer (some ⟨b1, 3, none⟩))]) (by kernel_rfl) (by decide) ?_
        refine WL.tell (op := .load 32 (.tmp 42)) (ty := 32) (d := some 43) (g := none) (by kernel_rfl) (by kernel_rfl) (by kernel_rfl) (Tells.load_box (i := 0) (b := b1) (o := 3) (agg := false) (by rfl) ag32 (by kernel_rfl) (fun _ => rfl) (Nat.le_of_ble_eq_true rfl) (v := .slice Aa0_f3 a0.f3.length ca0_f3) (by kernel_rfl)) ?_
        refine WL.pure 2 3 [1, 2, 43, 44] (L' := [(1, .int .i64 a1), (2, .pointer (some ⟨b1, 0, none⟩)), (43, .slice Aa0_f3 a0.f3.length ca0_f3), (44, .int .i64 a1)]) (by kernel_rfl) (by decide) ?_
        rw [Option.bind_eq_some_iff] at h
        obtain ⟨t17, ht18, h⟩ := h
        refine WL.op (op := .call { callee := (.value (.func 61)), args := #[(.tmp 43), (.tmp 44)], argTypes := #[32, 3] }) (ty := 4) (d := some 45) (g := none) (by kernel_rfl) (by kernel_rfl) (by kernel_rfl) (Does.call (f := 61) (args := [.slice Aa0_f3 a0.f3.length ca0_f3, .int .i64 a1]) (by kernel_rfl) (fun W hI => (grapevineref3_May_calls k a0.f3 a1 Aa0_f3 ca0_f3 Ha0_f3 t17 ht18 hI))) ?_
        rintro _ _ _ ⟨rfl, rfl, rfl⟩
        refine WL.pure 4 6 [1, 2, 47] (L' := [(1, .int .i64 a1), (2, .pointer (some ⟨b1, 0, none⟩)), (47, .bool (!t17))]) (by kernel_rfl) (by decide) ?_
        refine WL.split 47 (b := (!t17)) (by kernel_rfl) (fun hc => ?_) (fun hc => ?_)
        · replace hc := hc
          rw [if_pos hc] at h
          have hc21 := hc
          clear hc
          refine WL.rest 6 [1, 2, 61] (L' := [(1, .int .i64 a1), (2, .pointer (some ⟨b1, 0, none⟩)), (61, .bool true)]) (by kernel_rfl) ?_
          refine QP.pick [1, 2, 61] ?_
          exact QP.meet ⟨_, Option.some.inj h, rfl, rfl, rfl⟩
        · replace hc := (Bool.eq_false_iff.1 hc)
          rw [if_neg hc] at h
          have hc21 := hc
          clear hc
          refine WL.pure 6 7 [1, 2, 47, 48] (L' := [(1, .int .i64 a1), (2, .pointer (some ⟨b1, 0, none⟩)), (47, .bool false), (48, .pointer (some ⟨b1, 4, none⟩))]) (by kernel_rfl) (by decide) ?_
          refine WL.tell (op := .load 32 (.tmp 48)) (ty := 32) (d := some 49) (g := some (5, false)) (by kernel_rfl) (by kernel_rfl) (by kernel_rfl) (Tells.load_box (i := 0) (b := b1) (o := 4) (agg := false) (by rfl) ag32 (by kernel_rfl) (fun _ => rfl) (Nat.le_of_ble_eq_true rfl) (v := .slice Aa0_f4 a0.f4.length ca0_f4) (by kernel_rfl)) ?_
          refine WL.pure 8 9 [1, 2, 47, 49, 50] (L' := [(1, .int .i64 a1), (2, .pointer (some ⟨b1, 0, none⟩)), (47, .bool false), (49, .slice Aa0_f4 a0.f4.length ca0_f4), (50, .int .i64 a1)]) (by kernel_rfl) (by decide) ?_
          rw [Option.bind_eq_some_iff] at h
          obtain ⟨t22, ht23, h⟩ := h
          refine WL.op (op := .call { callee := (.value (.func 61)), args := #[(.tmp 49), (.tmp 50)], argTypes := #[32, 3] }) (ty := 4) (d := some 51) (g := some (5, false)) (by kernel_rfl) (by kernel_rfl) (by kernel_rfl) (Does.call (f := 61) (args := [.slice Aa0_f4 a0.f4.length ca0_f4, .int .i64 a1]) (by kernel_rfl) (fun W hI => (grapevineref3_May_calls k a0.f4 a1 Aa0_f4 ca0_f4 Ha0_f4 t22 ht23 hI))) ?_
          rintro _ _ _ ⟨rfl, rfl, rfl⟩
          refine WL.pure 10 13 [1, 2, 54] (L' := [(1, .int .i64 a1), (2, .pointer (some ⟨b1, 0, none⟩)), (54, .bool (!t22))]) (by kernel_rfl) (by decide) ?_
          refine WL.split 54 (b := (!t22)) (by kernel_rfl) (fun hc => ?_) (fun hc => ?_)
          · replace hc := hc
            rw [if_pos hc] at h
            have hc26 := hc
            clear hc
            refine WL.rest 13 [1, 2, 61] (L' := [(1, .int .i64 a1), (2, .pointer (some ⟨b1, 0, none⟩)), (61, .bool true)]) (by kernel_rfl) ?_
            refine QP.pick [1, 2, 61] ?_
            exact QP.meet ⟨_, Option.some.inj h, rfl, rfl, rfl⟩
          · replace hc := (Bool.eq_false_iff.1 hc)
            rw [if_neg hc] at h
            have hc26 := hc
            clear hc
            refine WL.pure 13 14 [1, 2, 54, 55] (L' := [(1, .int .i64 a1), (2, .pointer (some ⟨b1, 0, none⟩)), (54, .bool false), (55, .pointer (some ⟨b1, 4, none⟩))]) (by kernel_rfl) (by decide) ?_
            refine WL.tell (op := .load 32 (.tmp 55)) (ty := 32) (d := some 56) (g := some (12, false)) (by kernel_rfl) (by kernel_rfl) (by kernel_rfl) (Tells.load_box (i := 0) (b := b1) (o := 4) (agg := false) (by rfl) ag32 (by kernel_rfl) (fun _ => rfl) (Nat.le_of_ble_eq_true rfl) (v := .slice Aa0_f4 a0.f4.length ca0_f4) (by kernel_rfl)) ?_
            refine WL.pure 15 16 [1, 2, 54, 56, 57] (L' := [(1, .int .i64 a1), (2, .pointer (some ⟨b1, 0, none⟩)), (54, .bool false), (56, .slice Aa0_f4 a0.f4.length ca0_f4), (57, .pointer (some ⟨b1, 3, none⟩))]) (by kernel_rfl) (by decide) ?_
            refine WL.tell (op := .load 32 (.tmp 57)) (ty := 32) (d := some 58) (g := some (12, false)) (by kernel_rfl) (by kernel_rfl) (by kernel_rfl) (Tells.load_box (i := 0) (b := b1) (o := 3) (agg := false) (by rfl) ag32 (by kernel_rfl) (fun _ => rfl) (Nat.le_of_ble_eq_true rfl) (v := .slice Aa0_f3 a0.f3.length ca0_f3) (by kernel_rfl)) ?_
            rw [Option.bind_eq_some_iff] at h
            obtain ⟨t27, ht28, h⟩ := h
            refine WL.op (op := .call { callee := (.value (.func 62)), args := #[(.tmp 56), (.tmp 58)], argTypes := #[32, 32] }) (ty := 4) (d := some 59) (g := some (12, false)) (by kernel_rfl) (by kernel_rfl) (by kernel_rfl) (Does.call (f := 62) (args := [.slice Aa0_f4 a0.f4.length ca0_f4, .slice Aa0_f3 a0.f3.length ca0_f3]) (by kernel_rfl) (fun W hI => (grapevineref3_Below_calls k a0.f4 a0.f3 Aa0_f4 ca0_f4 Ha0_f4 Aa0_f3 ca0_f3 Ha0_f3 t27 ht28 hI))) ?_
            rintro _ _ _ ⟨rfl, rfl, rfl⟩
            refine WL.rest 18 [1, 2, 61] (L' := [(1, .int .i64 a1), (2, .pointer (some ⟨b1, 0, none⟩)), (61, .bool (!t27))]) (by kernel_rfl) ?_
            refine QP.pick [1, 2, 61] ?_
            exact QP.meet ⟨_, Option.some.inj h, rfl, rfl, rfl⟩
      · rintro _ _ _ ⟨s15, rfl, rfl, rfl, rfl⟩
        clear h
        replace h := hk16
        refine WP.cond (b := s15) (by kernel_rfl) (fun hc => ?_) (fun hc => ?_)
        · replace hc := hc
          rw [if_pos hc] at h
          have hc31 := hc
          clear hc
          refine WP.seqP [4] (L' := [(4, .bool false)]) (by kernel_rfl) ?_
          refine WP.dropAt 0 ?_
          refine WP.ret ?_
          refine QP.thenR ?_
          obtain rfl := Option.some.inj h
          exact QP.returned [4] [.bool false] _ (by kernel_rfl) (by kernel_rfl) (by kernel_rfl) (fun W hI => ⟨_, _, _, rfl, ⟨rfl, rfl, rfl⟩, hI⟩)
        · replace hc := (Bool.eq_false_iff.1 hc)
          rw [if_neg hc] at h
          have hc31 := hc
          clear hc
          refine WP.skip ?_
          refine QP.next ?_
          refine WP.pick [1, 2] ?_
          rw [Option.bind_eq_some_iff] at h
          obtain ⟨os32, h, hk33⟩ := h
          refine WP.cut (fun L' G' Γ' => ∃ s32 : Bool, s32 = os32 ∧ L' = [(4, .bool s32)] ∧ G = G' ∧ Γ = Γ') ?_ ?_
          · clear hk33
            refine WP.region ?_
            refine WL.pure 0 1 [1, 2, 62] (L' := [(1, .int .i64 a1), (2, .pointer (some ⟨b1, 0, none⟩)), (62, .pointer (some ⟨b1, 5, none⟩))]) (by kernel_rfl) (by decide) ?_
            refine WL.tell (op := .load 52 (.tmp 62)) (ty := 52) (d := some 63) (g := none) (by kernel_rfl) (by kernel_rfl) (by kernel_rfl) (Tells.load_box (i := 0) (b := b1) (o := 5) (agg := false) (by rfl) ag52 (by kernel_rfl) (fun _ => rfl) (Nat.le_of_ble_eq_true rfl) (v := .slice Aa0_f5 a0.f5.length ca0_f5) (by kernel_rfl)) ?_
            refine WL.pure 2 3 [2, 63, 64] (L' := [(2, .pointer (some ⟨b1, 0, none⟩)), (63, .slice Aa0_f5 a0.f5.length ca0_f5), (64, .int .i64 a1)]) (by kernel_rfl) (by decide) ?_
            rw [Option.bind_eq_some_iff] at h
            obtain ⟨t34, ht35, h⟩ := h
            refine WL.op (op := .call { callee := (.value (.func 63)), args := #[(.tmp 63), (.tmp 64)], argTypes := #[52, 3] }) (ty := 4) (d := some 65) (g := none) (by kernel_rfl) (by kernel_rfl) (by kernel_rfl) (Does.call (f := 63) (args := [.slice Aa0_f5 a0.f5.length ca0_f5, .int .i64 a1]) (by kernel_rfl) (fun W hI => (grapevineref20_records_calls HT k a0.f5 a1 Aa0_f5 ca0_f5 Ha0_f5 t34 ht35 hI))) ?_
            rintro _ _ _ ⟨rfl, rfl, rfl⟩
            refine WL.pure 4 5 [2, 66] (L' := [(2, .pointer (some ⟨b1, 0, none⟩)), (66, .bool t34)]) (by kernel_rfl) (by decide) ?_
            refine WL.split 66 (b := t34) (by kernel_rfl) (fun hc => ?_) (fun hc => ?_)
            · replace hc := hc
              rw [if_pos hc] at h
              have hc38 := hc
              clear hc
              refine WL.pure 5 6 [2, 66, 67] (L' := [(2, .pointer (some ⟨b1, 0, none⟩)), (66, .bool true), (67, .pointer (some ⟨b1, 0, none⟩))]) (by kernel_rfl) (by decide) ?_
              refine WL.tell (op := .load 3 (.tmp 67)) (ty := 3) (d := some 68) (g := some (4, true)) (by kernel_rfl) (by kernel_rfl) (by kernel_rfl) (Tells.load_box (i := 0) (b := b1) (o := 0) (agg := false) (by rfl) ag3 (by kernel_rfl) (fun _ => rfl) (Nat.le_of_ble_eq_true rfl) (v := .int .i64 a0.f0) (by kernel_rfl)) ?_
              refine WL.pure 7 9 [2, 66, 70] (L' := [(2, .pointer (some ⟨b1, 0, none⟩)), (66, .bool true), (70, .bool (a0.f0 == 2))]) (by kernel_rfl) (by decide) ?_
              refine WL.split 70 (b := (a0.f0 == 2)) (by kernel_rfl) (fun hc => ?_) (fun hc => ?_)
              · replace hc := eq_of_beq hc
                rw [if_pos hc] at h
                have hc39 := hc
                clear hc
                refine WL.rest 9 [4] (L' := [(4, .bool true)]) (by kernel_rfl) ?_
                refine QP.dropAt 0 ?_
                refine QP.pick [4] ?_
                exact QP.meet ⟨_, Option.some.inj h, rfl, rfl, rfl⟩
              · replace hc := ne_of_beq_false hc
                rw [if_neg hc] at h
                have hc39 := hc
                clear hc
                refine WL.pure 9 10 [66, 70, 71] (L' := [(66, .bool true), (70, .bool false), (71, .pointer (some ⟨b1, 5, none⟩))]) (by kernel_rfl) (by decide) ?_
                refine WL.tell (op := .load 52 (.tmp 71)) (ty := 52) (d := some 72) (g := some (8, false)) (by kernel_rfl) (by kernel_rfl) (by kernel_rfl) (Tells.load_box (i := 0) (b := b1) (o := 5) (agg := false) (by rfl) ag52 (by kernel_rfl) (fun _ => rfl) (Nat.le_of_ble_eq_true rfl) (v := .slice Aa0_f5 a0.f5.length ca0_f5) (by kernel_rfl)) ?_
                refine WL.rest 11 [4] (L' := [(4, .bool ((a0.f5.length : Int) == 0))]) (by kernel_rfl) ?_
                refine QP.dropAt 0 ?_
                refine QP.pick [4] ?_
                exact QP.meet ⟨_, Option.some.inj h, rfl, rfl, rfl⟩
            · replace hc := (Bool.eq_false_iff.1 hc)
              rw [if_neg hc] at h
              have hc38 := hc
              clear hc
              refine WL.rest 5 [4] (L' := [(4, .bool false)]) (by kernel_rfl) ?_
              refine QP.dropAt 0 ?_
              refine QP.pick [4] ?_
              exact QP.meet ⟨_, Option.some.inj h, rfl, rfl, rfl⟩
          · rintro _ _ _ ⟨s32, rfl, rfl, rfl, rfl⟩
            clear h
            replace h := hk33
            refine WP.ret ?_
            obtain rfl := Option.some.inj h
            exact QP.returned [4] [.bool s32] _ (by kernel_rfl) (by kernel_rfl) (by kernel_rfl) (fun W hI => ⟨_, _, _, rfl, ⟨rfl, rfl, rfl⟩, hI⟩)

/-! ### grapevine/grapevineref4.Num: function 56 -/
def grapevineref4_Num_l0 (a1 : Int) : Nat → (List Int) → Int → Option (List Int)
  | 0, _, _ => none
  | k + 1, y3, y4 => (if y4 ≥ 0 then (if 0 ≤ (IntKind.i64.wrap (8 * y4)) then (if y3.length + ([IntKind.u8.wrap (shrK .i64 a1 (IntKind.i64.wrap (8 * y4)))] : List Int).length ≤ 1073741824 then grapevineref4_Num_l0 a1 k (y3 ++ ([IntKind.u8.wrap (shrK .i64 a1 (IntKind.i64.wrap (8 * y4)))] : List Int)) (IntKind.i64.wrap (y4 - 1)) else none) else none) else some y3)
def grapevineref4_Num (k : Nat) (l0 : List Int) (a1 : Int) (a2 : Int) : Option (List Int) := ((grapevineref4_Num_l0 a1 k l0 (IntKind.i64.wrap (a2 - 1))).bind fun s1 => some s1)
set_option maxHeartbeats 4000000 in
theorem grapevineref4_Num_calls {B : World} {G : GMap} {Γ : List Chunk} {W : World} (k : Nat) (l0 : List Int) (a1 : Int) (a2 : Int) (Al0 : Option Addr) (cl0 : Nat) (Cl0 : Chunk) (Hl0 : Ow (kInt .u8) G Al0 cl0 l0 Cl0) (r : List Int) (h : grapevineref4_Num k l0 a1 a2 = some r) (hI : Inv B G (Cl0 :: Γ) W) :
    Calls Tryd.prog 56 [.slice Al0 l0.length cl0, .int .i64 a1, .int .i64 a2].toArray W (Ret B (fun v G' Γ' => ∃ (AR : Option Addr), ∃ (cR : Nat), ∃ (CR : Chunk), v = .slice AR r.length cR ∧ Ow (kInt .u8) G' AR cR r CR ∧ G = G' ∧ CR :: Γ = Γ')) := by
  refine calls_WP (Γ := Cl0 :: Γ) (G := G) (B := B) Tryd.func56 rfl (by kernel_rfl) ?_ hI
  clear hI
  unfold grapevineref4_Num at h
  refine WP.seqP [0, 1, 2] (L' := [(0, .slice Al0 l0.length cl0), (1, .int .i64 a1), (2, .int .i64 a2)]) (by kernel_rfl) ?_
  refine WP.seq ?_
  refine WP.seqP [0, 1, 7] (L' := [(0, .slice Al0 l0.length cl0), (1, .int .i64 a1), (7, .int .i64 (IntKind.i64.wrap (a2 - 1)))]) (by kernel_rfl) ?_
  rw [Option.bind_eq_some_iff] at h
  obtain ⟨os1, h, hk2⟩ := h
  refine WP.cutQ (fun L' G' Γ' => ∃ s1 : (List Int), s1 = os1 ∧ ∃ (As1 : Option Addr), ∃ (cs1 : Nat), ∃ (Cs1 : Chunk), L' = [(0, .slice As1 s1.length cs1)] ∧ G = G' ∧ Cs1 :: Γ = Γ' ∧ Ow (kInt .u8) G As1 cs1 s1 Cs1) ?_ ?_
  · clear hk2
    refine WP.block ?_
    refine WP.pick [0, 1, 7] ?_
    refine WP.loopF (fun kn5 L' G' Γ' => ∃ (y3 : List Int), ∃ (y4 : Int), grapevineref4_Num_l0 a1 kn5 y3 y4 = some os1 ∧ ∃ (Ay3 : Option Addr), ∃ (cy3 : Nat), ∃ (Cy3 : Chunk), L' = [(0, .slice Ay3 y3.length cy3), (1, .int .i64 a1), (7, .int .i64 y4)] ∧ G = G' ∧ Cy3 :: Γ = Γ' ∧ Ow (kInt .u8) G Ay3 cy3 y3 Cy3) ?_ k ⟨l0, (IntKind.i64.wrap (a2 - 1)), h, Al0, cl0, Cl0, rfl, rfl, rfl, Hl0⟩
    clear h
    rintro kn6 _ _ _ ⟨y3, y4, h, Ay3, cy3, Cy3, rfl, rfl, rfl, Hy3⟩
    cases kn6 with
    | zero => exact absurd h (by simp [grapevineref4_Num_l0])
    | succ kn6 =>
      simp only [grapevineref4_Num_l0] at h
      refine WP.seq ?_
      refine WP.seqP [0, 1, 7, 11] (L' := [(0, .slice Ay3 y3.length cy3), (1, .int .i64 a1), (7, .int .i64 y4), (11, .bool (decide (y4 ≥ 0)))]) (by kernel_rfl) ?_
      refine WP.cond (b := decide (y4 ≥ 0)) (by kernel_rfl) (fun hc => ?_) (fun hc => ?_)
      · replace hc := of_decide_eq_true hc
        rw [if_pos hc] at h
        have hc7 := hc
        clear hc
        refine WP.skip ?_
        refine QP.next ?_
        refine WP.pick [0, 1, 7] ?_
        refine WP.seq ?_
        refine WP.block ?_
        refine WP.region ?_
        refine WL.pure 0 4 [0, 1, 7, 14, 15, 17] (L' := [(0, .slice Ay3 y3.length cy3), (1, .int .i64 a1), (7, .int .i64 y4), (14, .slice Ay3 y3.length cy3), (15, .int .i64 a1), (17, .int .i64 (IntKind.i64.wrap (8 * y4)))]) (by kernel_rfl) (by decide) ?_
        by_cases hb8 : 0 ≤ (IntKind.i64.wrap (8 * y4))
        case neg => rw [if_neg hb8] at h; cases h
        rw [if_pos hb8] at h
        refine WL.tell (op := .binOp .shr 3 (.tmp 15) (.tmp 17) 3) (ty := 3) (d := some 18) (g := none) (by kernel_rfl) (by kernel_rfl) (by kernel_rfl) (Tells.shr (k := .i64) (k' := .i64) (a := a1) (b := (IntKind.i64.wrap (8 * y4))) (by kernel_rfl) (by kernel_rfl) hb8) ?_
        refine WL.pure 5 6 [0, 1, 7, 14, 19] (L' := [(0, .slice Ay3 y3.length cy3), (1, .int .i64 a1), (7, .int .i64 y4), (14, .slice Ay3 y3.length cy3), (19, .int .u8 (IntKind.u8.wrap (shrK .i64 a1 (IntKind.i64.wrap (8 * y4)))))]) (by kernel_rfl) (by decide) ?_
        refine WL.op (op := .buildSlice 22 1 #[(0, (.tmp 19))]) (ty := 22) (d := some 20) (g := none) (by kernel_rfl) (by kernel_rfl) (by kernel_rfl) (Does.new (o := .cells #[.int .u8 (IntKind.u8.wrap (shrK .i64 a1 (IntKind.i64.wrap (8 * y4))))] 5 (0, 0)) (v := fun r => .slice (some ⟨r, 0, none⟩) 1 1) (fun r => by kernel_rfl)) ?_
        rintro _ _ _ ⟨b9, rfl, rfl, rfl⟩
        have Ho11 : Ow (kInt .u8) G (some ⟨b9, 0, none⟩) 1 ([IntKind.u8.wrap (shrK .i64 a1 (IntKind.i64.wrap (8 * y4)))] : List Int) [(b9, .cells #[.int .u8 (IntKind.u8.wrap (shrK .i64 a1 (IntKind.i64.wrap (8 * y4))))] 5 (0, 0))] := Ow.lit (kd := (kInt .u8)) (G := G) (b := b9) (T := 5) (xs := ([IntKind.u8.wrap (shrK .i64 a1 (IntKind.i64.wrap (8 * y4)))] : List Int)) (cs := [.int .u8 (IntKind.u8.wrap (shrK .i64 a1 (IntKind.i64.wrap (8 * y4))))]) (.cons (x := (IntKind.u8.wrap (shrK .i64 a1 (IntKind.i64.wrap (8 * y4))))) (cs := [.int .u8 (IntKind.u8.wrap (shrK .i64 a1 (IntKind.i64.wrap (8 * y4))))]) (by exact rfl) .nil)
        by_cases hb12 : y3.length + ([IntKind.u8.wrap (shrK .i64 a1 (IntKind.i64.wrap (8 * y4)))] : List Int).length ≤ 1073741824
        case neg => rw [if_neg hb12] at h; cases h
        rw [if_pos hb12] at h
        refine WL.op (op := .call { callee := (.builtin .append), args := #[(.tmp 14), (.tmp 20)], argTypes := #[22, 22] }) (ty := 22) (d := some 21) (g := none) (by kernel_rfl) (by kernel_rfl) (by kernel_rfl) (Ow.append (ys := ([IntKind.u8.wrap (shrK .i64 a1 (IntKind.i64.wrap (8 * y4)))] : List Int)) (v := .slice (some ⟨b9, 0, none⟩) ([IntKind.u8.wrap (shrK .i64 a1 (IntKind.i64.wrap (8 * y4)))] : List Int).length 1) Hy3 (i := 1) rfl (by kernel_rfl) (by kernel_rfl) (Ho11.src (i := 0) rfl) sl22 ze5 nt22 (by decide) hb12) ?_
        rintro _ _ _ ⟨rfl, AN13, cN13, CN13, rfl, HN13, rfl⟩
        refine WL.rest 8 [0, 1, 7] (L' := [(0, .slice AN13 (y3 ++ ([IntKind.u8.wrap (shrK .i64 a1 (IntKind.i64.wrap (8 * y4)))] : List Int)).length cN13), (1, .int .i64 a1), (7, .int .i64 y4)]) (by kernel_rfl) ?_
        refine QP.blockN ?_
        refine QP.next ?_
        refine WP.pick [0, 1, 7] ?_
        refine WP.regionP [0, 1, 7] (L' := [(0, .slice AN13 (y3 ++ ([IntKind.u8.wrap (shrK .i64 a1 (IntKind.i64.wrap (8 * y4)))] : List Int)).length cN13), (1, .int .i64 a1), (7, .int .i64 (IntKind.i64.wrap (y4 - 1)))]) (by kernel_rfl) ?_
        refine QP.dropAt 0 ?_
        refine QP.pick [0, 1, 7] ?_
        exact QP.meet ⟨kn6, Nat.lt_succ_self _, (y3 ++ ([IntKind.u8.wrap (shrK .i64 a1 (IntKind.i64.wrap (8 * y4)))] : List Int)), (IntKind.i64.wrap (y4 - 1)), h, AN13, cN13, CN13, rfl, rfl, rfl, HN13⟩
      · replace hc := of_decide_eq_false hc
        rw [if_neg hc] at h
        have hc7 := hc
        clear hc
        refine WP.exit ?_
        refine QP.thenE ?_
        refine QP.thenE ?_
        refine QP.blockE ?_
        refine QP.pick [0] ?_
        exact QP.meet ⟨_, Option.some.inj h, Ay3, cy3, Cy3, rfl, rfl, rfl, Hy3⟩
  · rintro _ _ _ ⟨s1, rfl, As1, cs1, Cs1, rfl, rfl, rfl, Hs1⟩
    clear h
    replace h := hk2
    refine QP.next ?_
    refine WP.pick [0] ?_
    refine WP.seqP [6] (L' := [(6, .slice As1 s1.length cs1)]) (by kernel_rfl) ?_
    refine WP.ret ?_
    obtain rfl := Option.some.inj h
    exact QP.returned [6] [.slice As1 s1.length cs1] _ (by kernel_rfl) (by kernel_rfl) (by kernel_rfl) (fun W hI => ⟨_, _, _, rfl, ⟨As1, cs1, Cs1, rfl, Hs1, rfl, rfl⟩, hI⟩)

/-! ### grapevine/grapevineref4.Lay: function 57 -/
def grapevineref4_Lay (k : Nat) (a0 : T39) : Option ((List Int) × Int) := ((grapevineref4_May a0).bind fun t2 => (if (!t2) = true then some (([] : List Int), 2) else ((grapevineref4_Num k ([] : List Int) a0.f0 1).bind fun t7 => ((grapevineref4_Num k t7 a0.f1 2).bind fun t11 => ((grapevineref4_Num k t11 a0.f2 6).bind fun t15 => ((grapevineref4_Num k t15 a0.f3 2).bind fun t19 => ((grapevineref4_Num k t19 (a0.f4.size : Int) 1).bind fun t23 => (if t23.length + (bytesOf a0.f4).length ≤ 1073741824 then some ((t23 ++ (bytesOf a0.f4)), 0) else none))))))))
set_option maxHeartbeats 4000000 in
theorem grapevineref4_Lay_calls {B : World} {G : GMap} {Γ : List Chunk} {W : World} (HT : Tabs B G) (k : Nat) (a0 : T39) (r : (List Int) × Int) (h : grapevineref4_Lay k a0 = some r) (hI : Inv B G (Γ) W) :
    Calls Tryd.prog 57 [.agg #[.int .i64 a0.f0, .int .i64 a0.f1, .int .i64 a0.f2, .int .i64 a0.f3, .string a0.f4]].toArray W (Ret B (fun v G' Γ' => ∃ (AR0 : Option Addr), ∃ (cR0 : Nat), ∃ (CR0 : Chunk), v = .tuple #[.slice AR0 r.1.length cR0, .int .i64 r.2] ∧ Ow (kInt .u8) G' AR0 cR0 r.1 CR0 ∧ G = G' ∧ CR0 :: Γ = Γ')) := by
  refine calls_WP (Γ := Γ) (G := G) (B := B) Tryd.func57 rfl (by kernel_rfl) ?_ hI
  clear hI
  unfold grapevineref4_Lay at h
  refine WP.seqR ?_
  refine WL.op (op := .box 39 (.tmp 0)) (ty := 0) (d := some 1) (g := none) (by kernel_rfl) (by kernel_rfl) (by kernel_rfl) (Does.new (o := .cells #[.int .i64 a0.f0, .int .i64 a0.f1, .int .i64 a0.f2, .int .i64 a0.f3, .string a0.f4] 39 (0, 0)) (v := fun r => .pointer (some ⟨r, 0, none⟩)) (fun r => by kernel_rfl)) ?_
  rintro _ _ _ ⟨b1, rfl, rfl, rfl⟩
  refine WL.restQ 1 [1] (L' := [(1, .pointer (some ⟨b1, 0, none⟩))]) (by kernel_rfl) ?_
  refine WP.seq ?_
  refine WP.seqR ?_
  refine WL.tell (op := .load 39 (.tmp 1)) (ty := 39) (d := some 5) (g := none) (by kernel_rfl) (by kernel_rfl) (by kernel_rfl) (Tells.load_box (i := 0) (b := b1) (o := 0) (agg := true) (by rfl) ag39 (by kernel_rfl) (fun h => by cases h) (Nat.le_of_ble_eq_true rfl) (v := .agg #[.int .i64 a0.f0, .int .i64 a0.f1, .int .i64 a0.f2, .int .i64 a0.f3, .string a0.f4]) (by kernel_rfl)) ?_
  rw [Option.bind_eq_some_iff] at h
  obtain ⟨t2, ht3, h⟩ := h
  refine WL.op (op := .call { callee := (.value (.func 85)), args := #[(.tmp 5)], argTypes := #[39] }) (ty := 4) (d := some 6) (g := none) (by kernel_rfl) (by kernel_rfl) (by kernel_rfl) (Does.call (f := 85) (args := [.agg #[.int .i64 a0.f0, .int .i64 a0.f1, .int .i64 a0.f2, .int .i64 a0.f3, .string a0.f4]]) (by kernel_rfl) (fun W hI => (grapevineref4_May_calls HT a0  t2 ht3 hI))) ?_
  rintro _ _ _ ⟨rfl, rfl, rfl⟩
  refine WL.restQ 2 [1, 7] (L' := [(1, .pointer (some ⟨b1, 0, none⟩)), (7, .bool (!t2))]) (by kernel_rfl) ?_
  refine WP.cond (b := (!t2)) (by kernel_rfl) (fun hc => ?_) (fun hc => ?_)
  · replace hc := hc
    rw [if_pos hc] at h
    have hc6 := hc
    clear hc
    refine WP.seqP [2, 3] (L' := [(2, .slice none 0 0), (3, .int .i64 2)]) (by kernel_rfl) ?_
    refine WP.dropAt 0 ?_
    refine WP.ret ?_
    refine QP.thenR ?_
    obtain rfl := Option.some.inj h
    refine QP.addNil ?_
    exact QP.returned [2, 3] [.slice none ([] : List Int).length 0, .int .i64 2] _ (by kernel_rfl) (by kernel_rfl) (by kernel_rfl) (fun W hI => ⟨_, _, _, rfl, ⟨none, 0, [], rfl, (Ow.nil (kInt .u8) _), rfl, rfl⟩, hI⟩)
  · replace hc := (Bool.eq_false_iff.1 hc)
    rw [if_neg hc] at h
    have hc6 := hc
    clear hc
    refine WP.skip ?_
    refine QP.next ?_
    refine WP.pick [1] ?_
    refine WP.seq ?_
    refine WP.any (N := 21) (S := [⟨some 8, [1], []⟩, ⟨some 9, [8], [0]⟩, ⟨some 10, [9], [1]⟩, ⟨some 11, [10], [2]⟩, ⟨some 12, [1], []⟩, ⟨some 13, [12], [4]⟩, ⟨some 14, [13], [5]⟩, ⟨some 15, [11, 14], [3, 6]⟩, ⟨some 16, [1], []⟩, ⟨some 17, [16], [8]⟩, ⟨some 18, [17], [9]⟩, ⟨some 19, [15, 18], [7, 10]⟩, ⟨some 20, [1], []⟩, ⟨some 21, [20], [12]⟩, ⟨some 22, [21], [13]⟩, ⟨some 23, [19, 22], [11, 14]⟩, ⟨some 24, [1], []⟩, ⟨some 25, [24], [16]⟩, ⟨some 26, [25], [17]⟩, ⟨some 27, [23, 26], [15, 18]⟩, ⟨some 4, [27], [0, 1, 2, 3, 4, 5, 6, 7, 8, 9, 10, 11, 12, 13, 14, 15, 16, 17, 18, 19]⟩]) (kw := 21) (G0 := G) (Γ0 := [[(b1, .cells #[.int .i64 a0.f0, .int .i64 a0.f1, .int .i64 a0.f2, .int .i64 a0.f3, .string a0.f4] 39 (0, 0))]]) mo (by kernel_rfl) (fun hS => ?_)
    refine WA.pure [0, 1, 4, 5, 8, 9, 12, 13, 16] [1, 9, 13, 17, 21, 24] (m := 12) (b' := 78643) (L' := [(1, .pointer (some ⟨b1, 0, none⟩)), (9, .pointer (some ⟨b1, 0, none⟩)), (13, .pointer (some ⟨b1, 1, none⟩)), (17, .pointer (some ⟨b1, 2, none⟩)), (21, .pointer (some ⟨b1, 3, none⟩)), (24, .pointer (some ⟨b1, 4, none⟩))]) (by kernel_rfl) (NoPanic.then (NoPanic.body)) (Under.mem (C := [(b1, .cells #[.int .i64 a0.f0, .int .i64 a0.f1, .int .i64 a0.f2, .int .i64 a0.f3, .string a0.f4] 39 (0, 0))]) (by repeat first | exact List.Mem.head _ | apply List.Mem.tail)) hS (by kernel_rfl) ?_
    refine WA.tellD [] (i := 2) (m := 11) (b' := 78647) (by kernel_rfl) (NoPanic.then (NoPanic.body)) (Under.mem (C := [(b1, .cells #[.int .i64 a0.f0, .int .i64 a0.f1, .int .i64 a0.f2, .int .i64 a0.f3, .string a0.f4] 39 (0, 0))]) (by repeat first | exact List.Mem.head _ | apply List.Mem.tail)) hS (by kernel_rfl) (op := .load 3 (.tmp 9)) (ty := 3) (d := some 10) (g := none) (by kernel_rfl) (by kernel_rfl) (by kernel_rfl) (Tells.load_box (i := 0) (b := b1) (o := 0) (agg := false) (by rfl) ag3 (by kernel_rfl) (fun _ => rfl) (Nat.le_of_ble_eq_true rfl) (v := .int .i64 a0.f0) (by kernel_rfl)) ?_
    refine WA.tellD [] (i := 6) (m := 10) (b' := 78711) (by kernel_rfl) (NoPanic.then (NoPanic.body)) (Under.mem (C := [(b1, .cells #[.int .i64 a0.f0, .int .i64 a0.f1, .int .i64 a0.f2, .int .i64 a0.f3, .string a0.f4] 39 (0, 0))]) (by repeat first | exact List.Mem.head _ | apply List.Mem.tail)) hS (by kernel_rfl) (op := .load 3 (.tmp 13)) (ty := 3) (d := some 14) (g := none) (by kernel_rfl) (by kernel_rfl) (by kernel_rfl) (Tells.load_box (i := 0) (b := b1) (o := 1) (agg := false) (by rfl) ag3 (by kernel_rfl) (fun _ => rfl) (Nat.le_of_ble_eq_true rfl) (v := .int .i64 a0.f1) (by kernel_rfl)) ?_
    refine WA.tellD [] (i := 10) (m := 9) (b' := 79735) (by kernel_rfl) (NoPanic.then (NoPanic.body)) (Under.mem (C := [(b1, .cells #[.int .i64 a0.f0, .int .i64 a0.f1, .int .i64 a0.f2, .int .i64 a0.f3, .string a0.f4] 39 (0, 0))]) (by repeat first | exact List.Mem.head _ | apply List.Mem.tail)) hS (by kernel_rfl) (op := .load 3 (.tmp 17)) (ty := 3) (d := some 18) (g := none) (by kernel_rfl) (by kernel_rfl) (by kernel_rfl) (Tells.load_box (i := 0) (b := b1) (o := 2) (agg := false) (by rfl) ag3 (by kernel_rfl) (fun _ => rfl) (Nat.le_of_ble_eq_true rfl) (v := .int .i64 a0.f2) (by kernel_rfl)) ?_
    refine WA.tellD [] (i := 14) (m := 8) (b' := 96119) (by kernel_rfl) (NoPanic.then (NoPanic.body)) (Under.mem (C := [(b1, .cells #[.int .i64 a0.f0, .int .i64 a0.f1, .int .i64 a0.f2, .int .i64 a0.f3, .string a0.f4] 39 (0, 0))]) (by repeat first | exact List.Mem.head _ | apply List.Mem.tail)) hS (by kernel_rfl) (op := .load 3 (.tmp 21)) (ty := 3) (d := some 22) (g := none) (by kernel_rfl) (by kernel_rfl) (by kernel_rfl) (Tells.load_box (i := 0) (b := b1) (o := 3) (agg := false) (by rfl) ag3 (by kernel_rfl) (fun _ => rfl) (Nat.le_of_ble_eq_true rfl) (v := .int .i64 a0.f3) (by kernel_rfl)) ?_
    refine WA.tellD [] (i := 17) (m := 7) (b' := 227191) (by kernel_rfl) (NoPanic.then (NoPanic.body)) (Under.mem (C := [(b1, .cells #[.int .i64 a0.f0, .int .i64 a0.f1, .int .i64 a0.f2, .int .i64 a0.f3, .string a0.f4] 39 (0, 0))]) (by repeat first | exact List.Mem.head _ | apply List.Mem.tail)) hS (by kernel_rfl) (op := .load 9 (.tmp 24)) (ty := 9) (d := some 25) (g := none) (by kernel_rfl) (by kernel_rfl) (by kernel_rfl) (Tells.load_box (i := 0) (b := b1) (o := 4) (agg := false) (by rfl) ag9 (by kernel_rfl) (fun _ => rfl) (Nat.le_of_ble_eq_true rfl) (v := .string a0.f4) (by kernel_rfl)) ?_
    refine WA.pure [18] [1, 10, 14, 18, 22, 26] (m := 6) (b' := 489335) (L' := [(1, .pointer (some ⟨b1, 0, none⟩)), (10, .int .i64 a0.f0), (14, .int .i64 a0.f1), (18, .int .i64 a0.f2), (22, .int .i64 a0.f3), (26, .int .i64 (a0.f4.size : Int))]) (by kernel_rfl) (NoPanic.then (NoPanic.body)) (Under.mem (C := [(b1, .cells #[.int .i64 a0.f0, .int .i64 a0.f1, .int .i64 a0.f2, .int .i64 a0.f3, .string a0.f4] 39 (0, 0))]) (by repeat first | exact List.Mem.head _ | apply List.Mem.tail)) hS (by kernel_rfl) ?_
    refine WA.addNil ?_
    rw [Option.bind_eq_some_iff] at h
    obtain ⟨t7, ht8, h⟩ := h
    refine WA.op (i := 3) (m := 5) (b' := 489343) (by kernel_rfl) hS (by kernel_rfl) (op := .call { callee := (.value (.func 56)), args := #[(.const (.slice none 0 0)), (.tmp 10), (.const (.int .i64 1))], argTypes := #[22, 3, 3] }) (ty := 22) (d := some 11) (g := none) (by kernel_rfl) (by kernel_rfl) (by kernel_rfl) (Does.call (f := 56) (args := [.slice none ([] : List Int).length 0, .int .i64 a0.f0, .int .i64 1]) (by kernel_rfl) (fun W hI => (grapevineref4_Num_calls k ([] : List Int) a0.f0 1 none 0 [] (Ow.nil (kInt .u8) G) t7 ht8 hI))) ?_
    rintro _ _ _ ⟨AR9, cR9, CR9, rfl, HR9, rfl, rfl⟩
    refine ⟨_, _, Under.refl, (Under.mem (C := [(b1, .cells #[.int .i64 a0.f0, .int .i64 a0.f1, .int .i64 a0.f2, .int .i64 a0.f3, .string a0.f4] 39 (0, 0))]) (by repeat first | exact List.Mem.head _ | apply List.Mem.tail)), ?_⟩
    rw [Option.bind_eq_some_iff] at h
    obtain ⟨t11, ht12, h⟩ := h
    refine WA.op (i := 7) (m := 4) (b' := 489471) (by kernel_rfl) hS (by kernel_rfl) (op := .call { callee := (.value (.func 56)), args := #[(.tmp 11), (.tmp 14), (.const (.int .i64 2))], argTypes := #[22, 3, 3] }) (ty := 22) (d := some 15) (g := none) (by kernel_rfl) (by kernel_rfl) (by kernel_rfl) (Does.call (f := 56) (args := [.slice AR9 t7.length cR9, .int .i64 a0.f1, .int .i64 2]) (by kernel_rfl) (fun W hI => (grapevineref4_Num_calls k t7 a0.f1 2 AR9 cR9 CR9 HR9 t11 ht12 hI))) ?_
    rintro _ _ _ ⟨AR13, cR13, CR13, rfl, HR13, rfl, rfl⟩
    refine ⟨_, _, Under.refl, (Under.mem (C := [(b1, .cells #[.int .i64 a0.f0, .int .i64 a0.f1, .int .i64 a0.f2, .int .i64 a0.f3, .string a0.f4] 39 (0, 0))]) (by repeat first | exact List.Mem.head _ | apply List.Mem.tail)), ?_⟩
    rw [Option.bind_eq_some_iff] at h
    obtain ⟨t15, ht16, h⟩ := h
    refine WA.op (i := 11) (m := 3) (b' := 491519) (by kernel_rfl) hS (by kernel_rfl) (op := .call { callee := (.value (.func 56)), args := #[(.tmp 15), (.tmp 18), (.const (.int .i64 6))], argTypes := #[22, 3, 3] }) (ty := 22) (d := some 19) (g := none) (by kernel_rfl) (by kernel_rfl) (by kernel_rfl) (Does.call (f := 56) (args := [.slice AR13 t11.length cR13, .int .i64 a0.f2, .int .i64 6]) (by kernel_rfl) (fun W hI => (grapevineref4_Num_calls k t11 a0.f2 6 AR13 cR13 CR13 HR13 t15 ht16 hI))) ?_
    rintro _ _ _ ⟨AR17, cR17, CR17, rfl, HR17, rfl, rfl⟩
    refine ⟨_, _, Under.refl, (Under.mem (C := [(b1, .cells #[.int .i64 a0.f0, .int .i64 a0.f1, .int .i64 a0.f2, .int .i64 a0.f3, .string a0.f4] 39 (0, 0))]) (by repeat first | exact List.Mem.head _ | apply List.Mem.tail)), ?_⟩
    rw [Option.bind_eq_some_iff] at h
    obtain ⟨t19, ht20, h⟩ := h
    refine WA.op (i := 15) (m := 2) (b' := 524287) (by kernel_rfl) hS (by kernel_rfl) (op := .call { callee := (.value (.func 56)), args := #[(.tmp 19), (.tmp 22), (.const (.int .i64 2))], argTypes := #[22, 3, 3] }) (ty := 22) (d := some 23) (g := none) (by kernel_rfl) (by kernel_rfl) (by kernel_rfl) (Does.call (f := 56) (args := [.slice AR17 t15.length cR17, .int .i64 a0.f3, .int .i64 2]) (by kernel_rfl) (fun W hI => (grapevineref4_Num_calls k t15 a0.f3 2 AR17 cR17 CR17 HR17 t19 ht20 hI))) ?_
    rintro _ _ _ ⟨AR21, cR21, CR21, rfl, HR21, rfl, rfl⟩
    refine ⟨_, _, Under.refl, (Under.mem (C := [(b1, .cells #[.int .i64 a0.f0, .int .i64 a0.f1, .int .i64 a0.f2, .int .i64 a0.f3, .string a0.f4] 39 (0, 0))]) (by repeat first | exact List.Mem.head _ | apply List.Mem.tail)), ?_⟩
    rw [Option.bind_eq_some_iff] at h
    obtain ⟨t23, ht24, h⟩ := h
    refine WA.op (i := 19) (m := 1) (b' := 1048575) (by kernel_rfl) hS (by kernel_rfl) (op := .call { callee := (.value (.func 56)), args := #[(.tmp 23), (.tmp 26), (.const (.int .i64 1))], argTypes := #[22, 3, 3] }) (ty := 22) (d := some 27) (g := none) (by kernel_rfl) (by kernel_rfl) (by kernel_rfl) (Does.call (f := 56) (args := [.slice AR21 t19.length cR21, .int .i64 (a0.f4.size : Int), .int .i64 1]) (by kernel_rfl) (fun W hI => (grapevineref4_Num_calls k t19 (a0.f4.size : Int) 1 AR21 cR21 CR21 HR21 t23 ht24 hI))) ?_
    rintro _ _ _ ⟨AR25, cR25, CR25, rfl, HR25, rfl, rfl⟩
    refine ⟨_, _, Under.refl, (Under.mem (C := [(b1, .cells #[.int .i64 a0.f0, .int .i64 a0.f1, .int .i64 a0.f2, .int .i64 a0.f3, .string a0.f4] 39 (0, 0))]) (by repeat first | exact List.Mem.head _ | apply List.Mem.tail)), ?_⟩
    refine WA.pure [20] [1, 4] (m := 0) (b' := 2097151) (L' := [(1, .pointer (some ⟨b1, 0, none⟩)), (4, .slice AR25 t23.length cR25)]) (by kernel_rfl) (NoPanic.then (NoPanic.body)) (Under.mem (C := [(b1, .cells #[.int .i64 a0.f0, .int .i64 a0.f1, .int .i64 a0.f2, .int .i64 a0.f3, .string a0.f4] 39 (0, 0))]) (by repeat first | exact List.Mem.head _ | apply List.Mem.tail)) hS (by kernel_rfl) ?_
    refine WA.done hS (by kernel_rfl) ?_
    refine QP.pick [1, 4] ?_
    refine QP.next ?_
    refine WP.seqR ?_
    refine WL.pure 0 2 [28, 29] (L' := [(28, .slice AR25 t23.length cR25), (29, .pointer (some ⟨b1, 4, none⟩))]) (by kernel_rfl) (by decide) ?_
    refine WL.tell (op := .load 9 (.tmp 29)) (ty := 9) (d := some 30) (g := none) (by kernel_rfl) (by kernel_rfl) (by kernel_rfl) (Tells.load_box (i := 1) (b := b1) (o := 4) (agg := false) (by rfl) ag9 (by kernel_rfl) (fun _ => rfl) (Nat.le_of_ble_eq_true rfl) (v := .string a0.f4) (by kernel_rfl)) ?_
    by_cases hb27 : t23.length + (bytesOf a0.f4).length ≤ 1073741824
    case neg => rw [if_neg hb27] at h; cases h
    rw [if_pos hb27] at h
    refine WL.op (op := .call { callee := (.builtin .append), args := #[(.tmp 28), (.tmp 30)], argTypes := #[22, 9] }) (ty := 22) (d := some 31) (g := none) (by kernel_rfl) (by kernel_rfl) (by kernel_rfl) (Ow.append (ys := (bytesOf a0.f4)) (v := .string a0.f4) HR25 (i := 0) rfl (by kernel_rfl) (by kernel_rfl) (Src.str a0.f4) sl22 ze5 nt9 (by decide) hb27) ?_
    rintro _ _ _ ⟨rfl, AN28, cN28, CN28, rfl, HN28, rfl⟩
    refine WL.restQ 4 [2, 3] (L' := [(2, .slice AN28 (t23 ++ (bytesOf a0.f4)).length cN28), (3, .int .i64 0)]) (by kernel_rfl) ?_
    refine WP.dropAt 1 ?_
    refine WP.ret ?_
    obtain rfl := Option.some.inj h
    exact QP.returned [2, 3] [.slice AN28 (t23 ++ (bytesOf a0.f4)).length cN28, .int .i64 0] _ (by kernel_rfl) (by kernel_rfl) (by kernel_rfl) (fun W hI => ⟨_, _, _, rfl, ⟨AN28, cN28, CN28, rfl, HN28, rfl, rfl⟩, hI⟩)

/-! ### grapevine/grapevineref6.Lay: function 58 -/
def grapevineref6_Lay (k : Nat) (a0 : Int) (l1 : List Int) : Option ((List Int) × Int) := ((if a0 < 1 then some true else (if a0 > 255 then some true else some (decide ((l1.length : Int) > 65535)))).bind fun s1 => (if s1 = true then some (([] : List Int), 2) else ((grapevineref4_Num k ([71, IntKind.u8.wrap a0] : List Int) (l1.length : Int) 2).bind fun t9 => (if t9.length + l1.length ≤ 1073741824 then ((grapevineref6_seal k (t9 ++ l1)).bind fun t15 => (if (t9 ++ l1).length + t15.length ≤ 1073741824 then some (((t9 ++ l1) ++ t15), 0) else none)) else none))))
set_option maxHeartbeats 4000000 in
theorem grapevineref6_Lay_calls {B : World} {G : GMap} {Γ : List Chunk} {W : World} (k : Nat) (a0 : Int) (l1 : List Int) (Al1 : Option Addr) (cl1 : Nat) (Hl1 : Rd (kInt .u8) G Al1 cl1 l1) (r : (List Int) × Int) (h : grapevineref6_Lay k a0 l1 = some r) (hI : Inv B G (Γ) W) :
    Calls Tryd.prog 58 [.int .i64 a0, .slice Al1 l1.length cl1].toArray W (Ret B (fun v G' Γ' => ∃ (AR0 : Option Addr), ∃ (cR0 : Nat), ∃ (CR0 : Chunk), v = .tuple #[.slice AR0 r.1.length cR0, .int .i64 r.2] ∧ Ow (kInt .u8) G' AR0 cR0 r.1 CR0 ∧ G = G' ∧ CR0 :: Γ = Γ')) := by
  refine calls_WP (Γ := Γ) (G := G) (B := B) Tryd.func58 rfl (by kernel_rfl) ?_ hI
  clear hI
  unfold grapevineref6_Lay at h
  refine WP.seqP [0, 1] (L' := [(0, .int .i64 a0), (1, .slice Al1 l1.length cl1)]) (by kernel_rfl) ?_
  refine WP.seq ?_
  rw [Option.bind_eq_some_iff] at h
  obtain ⟨os1, h, hk2⟩ := h
  refine WP.cut (fun L' G' Γ' => ∃ s1 : Bool, s1 = os1 ∧ L' = [(0, .int .i64 a0), (1, .slice Al1 l1.length cl1), (17, .bool s1)] ∧ G = G' ∧ Γ = Γ') ?_ ?_
  · clear hk2
    refine WP.region ?_
    refine WL.pure 0 3 [0, 1, 9] (L' := [(0, .int .i64 a0), (1, .slice Al1 l1.length cl1), (9, .bool (decide (a0 < 1)))]) (by kernel_rfl) (by decide) ?_
    refine WL.split 9 (b := decide (a0 < 1)) (by kernel_rfl) (fun hc => ?_) (fun hc => ?_)
    · replace hc := of_decide_eq_true hc
      rw [if_pos hc] at h
      have hc3 := hc
      clear hc
      refine WL.rest 3 [0, 1, 17] (L' := [(0, .int .i64 a0), (1, .slice Al1 l1.length cl1), (17, .bool true)]) (by kernel_rfl) ?_
      refine QP.pick [0, 1, 17] ?_
      exact QP.meet ⟨_, Option.some.inj h, rfl, rfl, rfl⟩
    · replace hc := of_decide_eq_false hc
      rw [if_neg hc] at h
      have hc3 := hc
      clear hc
      refine WL.pure 3 7 [0, 1, 13] (L' := [(0, .int .i64 a0), (1, .slice Al1 l1.length cl1), (13, .bool (decide (a0 > 255)))]) (by kernel_rfl) (by decide) ?_
      refine WL.split 13 (b := decide (a0 > 255)) (by kernel_rfl) (fun hc => ?_) (fun hc => ?_)
      · replace hc := of_decide_eq_true hc
        rw [if_pos hc] at h
        have hc4 := hc
        clear hc
        refine WL.rest 7 [0, 1, 17] (L' := [(0, .int .i64 a0), (1, .slice Al1 l1.length cl1), (17, .bool true)]) (by kernel_rfl) ?_
        refine QP.pick [0, 1, 17] ?_
        exact QP.meet ⟨_, Option.some.inj h, rfl, rfl, rfl⟩
      · replace hc := of_decide_eq_false hc
        rw [if_neg hc] at h
        have hc4 := hc
        clear hc
        refine WL.rest 7 [0, 1, 17] (L' := [(0, .int .i64 a0), (1, .slice Al1 l1.length cl1), (17, .bool (decide ((l1.length : Int) > 65535)))]) (by kernel_rfl) ?_
        refine QP.pick [0, 1, 17] ?_
        exact QP.meet ⟨_, Option.some.inj h, rfl, rfl, rfl⟩
  · rintro _ _ _ ⟨s1, rfl, rfl, rfl, rfl⟩
    clear h
    replace h := hk2
    refine WP.cond (b := s1) (by kernel_rfl) (fun hc => ?_) (fun hc => ?_)
    · replace hc := hc
      rw [if_pos hc] at h
      have hc5 := hc
      clear hc
      refine WP.seqP [4, 5] (L' := [(4, .slice none 0 0), (5, .int .i64 2)]) (by kernel_rfl) ?_
      refine WP.ret ?_
      refine QP.thenR ?_
      obtain rfl := Option.some.inj h
      refine QP.addNil ?_
      exact QP.returned [4, 5] [.slice none ([] : List Int).length 0, .int .i64 2] _ (by kernel_rfl) (by kernel_rfl) (by kernel_rfl) (fun W hI => ⟨_, _, _, rfl, ⟨none, 0, [], rfl, (Ow.nil (kInt .u8) _), rfl, rfl⟩, hI⟩)
    · replace hc := (Bool.eq_false_iff.1 hc)
      rw [if_neg hc] at h
      have hc5 := hc
      clear hc
      refine WP.skip ?_
      refine QP.next ?_
      refine WP.pick [0, 1] ?_
      refine WP.seqR ?_
      refine WL.pure 0 2 [1, 19] (L' := [(1, .slice Al1 l1.length cl1), (19, .int .u8 (IntKind.u8.wrap a0))]) (by kernel_rfl) (by decide) ?_
      refine WL.op (op := .buildSlice 22 2 #[(0, (.const (.int .u8 71))), (1, (.tmp 19))]) (ty := 22) (d := some 20) (g := none) (by kernel_rfl) (by kernel_rfl) (by kernel_rfl) (Does.new (o := .cells #[.int .u8 71, .int .u8 (IntKind.u8.wrap a0)] 5 (0, 0)) (v := fun r => .slice (some ⟨r, 0, none⟩) 2 2) (fun r => by kernel_rfl)) ?_
      rintro _ _ _ ⟨b6, rfl, rfl, rfl⟩
      have Ho8 : Ow (kInt .u8) G (some ⟨b6, 0, none⟩) 2 ([71, IntKind.u8.wrap a0] : List Int) [(b6, .cells #[.int .u8 71, .int .u8 (IntKind.u8.wrap a0)] 5 (0, 0))] := Ow.lit (kd := (kInt .u8)) (G := G) (b := b6) (T := 5) (xs := ([71, IntKind.u8.wrap a0] : List Int)) (cs := [.int .u8 71, .int .u8 (IntKind.u8.wrap a0)]) (.cons (x := 71) (cs := [.int .u8 71]) (by exact rfl) (.cons (x := (IntKind.u8.wrap a0)) (cs := [.int .u8 (IntKind.u8.wrap a0)]) (by exact rfl) .nil))
      refine WL.pure 3 5 [1, 20, 22] (L' := [(1, .slice Al1 l1.length cl1), (20, .slice (some ⟨b6, 0, none⟩) ([71, IntKind.u8.wrap a0] : List Int).length 2), (22, .int .i64 (l1.length : Int))]) (by kernel_rfl) (by decide) ?_
      rw [Option.bind_eq_some_iff] at h
      obtain ⟨t9, ht10, h⟩ := h
      refine WL.op (op := .call { callee := (.value (.func 56)), args := #[(.tmp 20), (.tmp 22), (.const (.int .i64 2))], argTypes := #[22, 3, 3] }) (ty := 22) (d := some 23) (g := none) (by kernel_rfl) (by kernel_rfl) (by kernel_rfl) (Does.call (f := 56) (args := [.slice (some ⟨b6, 0, none⟩) ([71, IntKind.u8.wrap a0] : List Int).length 2, .int .i64 (l1.length : Int), .int .i64 2]) (by kernel_rfl) (fun W hI => (grapevineref4_Num_calls k ([71, IntKind.u8.wrap a0] : List Int) (l1.length : Int) 2 (some ⟨b6, 0, none⟩) 2 [(b6, .cells #[.int .u8 71, .int .u8 (IntKind.u8.wrap a0)] 5 (0, 0))] Ho8 t9 ht10 hI))) ?_
      rintro _ _ _ ⟨AR11, cR11, CR11, rfl, HR11, rfl, rfl⟩
      refine WL.pure 6 7 [23, 24] (L' := [(23, .slice AR11 t9.length cR11), (24, .slice Al1 l1.length cl1)]) (by kernel_rfl) (by decide) ?_
      by_cases hb13 : t9.length + l1.length ≤ 1073741824
      case neg => rw [if_neg hb13] at h; cases h
      rw [if_pos hb13] at h
      refine WL.op (op := .call { callee := (.builtin .append), args := #[(.tmp 23), (.tmp 24)], argTypes := #[22, 22] }) (ty := 22) (d := some 25) (g := none) (by kernel_rfl) (by kernel_rfl) (by kernel_rfl) (Ow.append (ys := l1) (v := .slice Al1 l1.length cl1) HR11 (i := 0) rfl (by kernel_rfl) (by kernel_rfl) Hl1.src sl22 ze5 nt22 (by decide) hb13) ?_
      rintro _ _ _ ⟨rfl, AN14, cN14, CN14, rfl, HN14, rfl⟩
      refine WL.restQ 8 [6] (L' := [(6, .slice AN14 (t9 ++ l1).length cN14)]) (by kernel_rfl) ?_
      refine WP.seqR ?_
      refine WL.pure 0 2 [26, 27] (L' := [(26, .slice AN14 (t9 ++ l1).length cN14), (27, .slice AN14 (t9 ++ l1).length cN14)]) (by kernel_rfl) (by decide) ?_
      rw [Option.bind_eq_some_iff] at h
      obtain ⟨t15, ht16, h⟩ := h
      refine WL.op (op := .call { callee := (.value (.func 50)), args := #[(.tmp 27)], argTypes := #[22] }) (ty := 22) (d := some 28) (g := none) (by kernel_rfl) (by kernel_rfl) (by kernel_rfl) (Does.call (Φ := fun v' G' Γ' => ∃ (AR17 : Option Addr), ∃ (cR17 : Nat), ∃ (CR17 : Chunk), v' = .slice AR17 t15.length cR17 ∧ Ow (kInt .u8) G AR17 cR17 t15 CR17 ∧ G = G' ∧ CR17 :: CN14 :: Γ = Γ') (f := 50) (args := [.slice AN14 (t9 ++ l1).length cN14]) (by kernel_rfl) (fun W hI => (Calls.lendN (Φ := fun v' N => ∃ (AR17 : Option Addr), ∃ (cR17 : Nat), ∃ (CR17 : Chunk), v' = .slice AR17 t15.length cR17 ∧ Ow (kInt .u8) G AR17 cR17 t15 CR17 ∧ N = [CR17]) (H := []) (i := 0) rfl hI (fun _ e l19 nl19 hI => by subst e; exact (((grapevineref6_seal_calls k (t9 ++ l1) AN14 cN14 (HN14.rdN l19 nl19) t15 ht16 hI)).mono fun _ _ hr => by obtain ⟨_, _, _, rfl, hd, hI⟩ := hr; obtain ⟨AR17, cR17, CR17, rfl, HR17, rfl, rfl⟩ := hd; exact ⟨_, _, _, rfl, ⟨[CR17], ⟨AR17, cR17, CR17, rfl, (HR17.flat (kInt_flat _)), rfl⟩, rfl, rfl⟩, hI⟩))).mono fun _ _ hr => by obtain ⟨_, _, _, rfl, ⟨_, hd, rfl, rfl⟩, hI⟩ := hr; obtain ⟨AR17, cR17, CR17, rfl, HR17, rfl⟩ := hd; exact ⟨_, _, _, rfl, ⟨AR17, cR17, CR17, rfl, HR17, rfl, rfl⟩, hI⟩)) ?_
      rintro _ _ _ ⟨AR17, cR17, CR17, rfl, HR17, rfl, rfl⟩
      by_cases hb20 : (t9 ++ l1).length + t15.length ≤ 1073741824
      case neg => rw [if_neg hb20] at h; cases h
      rw [if_pos hb20] at h
      refine WL.op (op := .call { callee := (.builtin .append), args := #[(.tmp 26), (.tmp 28)], argTypes := #[22, 22] }) (ty := 22) (d := some 29) (g := none) (by kernel_rfl) (by kernel_rfl) (by kernel_rfl) (Ow.append (ys := t15) (v := .slice AR17 t15.length cR17) HN14 (i := 1) rfl (by kernel_rfl) (by kernel_rfl) (HR17.src (i := 0) rfl) sl22 ze5 nt22 (by decide) hb20) ?_
      rintro _ _ _ ⟨rfl, AN21, cN21, CN21, rfl, HN21, rfl⟩
      refine WL.restQ 4 [4, 5] (L' := [(4, .slice AN21 ((t9 ++ l1) ++ t15).length cN21), (5, .int .i64 0)]) (by kernel_rfl) ?_
      refine WP.dropAt 0 ?_
      refine WP.ret ?_
      obtain rfl := Option.some.inj h
      exact QP.returned [4, 5] [.slice AN21 ((t9 ++ l1) ++ t15).length cN21, .int .i64 0] _ (by kernel_rfl) (by kernel_rfl) (by kernel_rfl) (fun W hI => ⟨_, _, _, rfl, ⟨AN21, cN21, CN21, rfl, HN21, rfl, rfl⟩, hI⟩)

/-! ### grapevine/grapevineref20.Lay: function 27 -/
def grapevineref20_Lay_l0 (a0 : T54) (a1 : Int) : Nat → (List Int) → Int → Option (List Int)
  | 0, _, _ => none
  | k + 1, y15, y16 => (if y16 < a1 then (if 0 ≤ y16 ∧ y16 < (a0.f3.length : Int) then ((grapevineref4_Num k y15 (a0.f3.getD y16.toNat 0) 2).bind fun t21 => grapevineref20_Lay_l0 a0 a1 k t21 (IntKind.i64.wrap (y16 + 1))) else none) else some y15)
def grapevineref20_Lay_l1 (a0 : T54) (a1 : Int) : Nat → (List Int) → Int → Option (List Int)
  | 0, _, _ => none
  | k + 1, y27, y28 => (if y28 < a1 then (if 0 ≤ y28 ∧ y28 < (a0.f4.length : Int) then ((grapevineref4_Num k y27 (a0.f4.getD y28.toNat 0) 2).bind fun t33 => grapevineref20_Lay_l1 a0 a1 k t33 (IntKind.i64.wrap (y28 + 1))) else none) else some y27)
def grapevineref20_Lay_l2 (a0 : T54) : Nat → (List Int) → Int → Option (List Int)
  | 0, _, _ => none
  | k + 1, y43, y44 => (if y44 < (a0.f5.length : Int) then (if 0 ≤ y44 ∧ y44 < (a0.f5.length : Int) then ((grapevineref4_Lay k (a0.f5.getD y44.toNat z39)).bind fun t49 => (if y43.length + t49.1.length ≤ 1073741824 then grapevineref20_Lay_l2 a0 k (y43 ++ t49.1) (IntKind.i64.wrap (y44 + 1)) else none)) else none) else some y43)
def grapevineref20_Lay (k : Nat) (a0 : T54) (a1 : Int) : Option ((List Int) × Int) := ((grapevineref20_May k a0 a1).bind fun t2 => (if (!t2) = true then some (([] : List Int), 2) else ((some ([IntKind.u8.wrap a0.f1, IntKind.u8.wrap a0.f2, IntKind.u8.wrap a1] : List Int)).bind fun v10 => ((grapevineref20_Lay_l0 a0 a1 k v10 0).bind fun s13 => ((grapevineref20_Lay_l1 a0 a1 k s13 0).bind fun s25 => ((grapevineref4_Num k s25 (a0.f5.length : Int) 1).bind fun t37 => ((grapevineref20_Lay_l2 a0 k t37 0).bind fun s41 => ((grapevineref6_Lay k a0.f0 s41).bind fun t55 => some (t55.1, t55.2)))))))))
set_option maxHeartbeats 4000000 in
theorem grapevineref20_Lay_calls {B : World} {G : GMap} {Γ : List Chunk} {W : World} (HT : Tabs B G) (k : Nat) (a0 : T54) (a1 : Int) (Aa0_f3 : Option Addr) (ca0_f3 : Nat) (Ha0_f3 : Rd (kInt .i64) G Aa0_f3 ca0_f3 a0.f3) (Aa0_f4 : Option Addr) (ca0_f4 : Nat) (Ha0_f4 : Rd (kInt .i64) G Aa0_f4 ca0_f4 a0.f4) (Aa0_f5 : Option Addr) (ca0_f5 : Nat) (Ha0_f5 : Rd k39 G Aa0_f5 ca0_f5 a0.f5) (r : (List Int) × Int) (h : grapevineref20_Lay k a0 a1 = some r) (hI : Inv B G (Γ) W) :
    Calls Tryd.prog 27 [.agg #[.int .i64 a0.f0, .int .i64 a0.f1, .int .i64 a0.f2, .slice Aa0_f3 a0.f3.length ca0_f3, .slice Aa0_f4 a0.f4.length ca0_f4, .slice Aa0_f5 a0.f5.length ca0_f5], .int .i64 a1].toArray W (Ret B (fun v G' Γ' => ∃ (AR0 : Option Addr), ∃ (cR0 : Nat), ∃ (CR0 : Chunk), v = .tuple #[.slice AR0 r.1.length cR0, .int .i64 r.2] ∧ Ow (kInt .u8) G' AR0 cR0 r.1 CR0 ∧ G = G' ∧ CR0 :: Γ = Γ')) := by
  refine calls_WP (Γ := Γ) (G := G) (B := B) Tryd.func27 rfl (by kernel_rfl) ?_ hI
  clear hI
  unfold grapevineref20_Lay at h
  refine WP.seqR ?_
  refine WL.op (op := .box 54 (.tmp 0)) (ty := 0) (d := some 2) (g := none) (by kernel_rfl) (by kernel_rfl) (by kernel_rfl) (Does.new (o := .cells #[.int .i64 a0.f0, .int .i64 a0.f1, .int .i64 a0.f2, .slice Aa0_f3 a0.f3.length ca0_f3, .slice Aa0_f4 a0.f4.length ca0_f4, .slice Aa0_f5 a0.f5.length ca0_f5] 54 (0, 0)) (v := fun r => .pointer (some ⟨r, 0, none⟩)) (fun r => by kernel_rfl)) ?_
  rintro _ _ _ ⟨b1, rfl, rfl, rfl⟩
  refine WL.restQ 1 [1, 2] (L' := [(1, .int .i64 a1), (2, .pointer (some ⟨b1, 0, none⟩))]) (by kernel_rfl) ?_
  refine WP.seq ?_
  refine WP.seqR ?_
  refine WL.tell (op := .load 54 (.tmp 2)) (ty := 54) (d := some 12) (g := none) (by kernel_rfl) (by kernel_rfl) (by kernel_rfl) (Tells.load_box (i := 0) (b := b1) (o := 0) (agg := true) (by rfl) ag54 (by kernel_rfl) (fun h => by cases h) (Nat.le_of_ble_eq_true rfl) (v := .agg #[.int .i64 a0.f0, .int .i64 a0.f1, .int .i64 a0.f2, .slice Aa0_f3 a0.f3.length ca0_f3, .slice Aa0_f4 a0.f4.length ca0_f4, .slice Aa0_f5 a0.f5.length ca0_f5]) (by kernel_rfl)) ?_
  refine WL.pure 1 2 [1, 2, 12, 13] (L' := [(1, .int .i64 a1), (2, .pointer (some ⟨b1, 0, none⟩)), (12, .agg #[.int .i64 a0.f0, .int .i64 a0.f1, .int .i64 a0.f2, .slice Aa0_f3 a0.f3.length ca0_f3, .slice Aa0_f4 a0.f4.length ca0_f4, .slice Aa0_f5 a0.f5.length ca0_f5]), (13, .int .i64 a1)]) (by kernel_rfl) (by decide) ?_
  rw [Option.bind_eq_some_iff] at h
  obtain ⟨t2, ht3, h⟩ := h
  refine WL.op (op := .call { callee := (.value (.func 30)), args := #[(.tmp 12), (.tmp 13)], argTypes := #[54, 3] }) (ty := 4) (d := some 14) (g := none) (by kernel_rfl) (by kernel_rfl) (by kernel_rfl) (Does.call (f := 30) (args := [.agg #[.int .i64 a0.f0, .int .i64 a0.f1, .int .i64 a0.f2, .slice Aa0_f3 a0.f3.length ca0_f3, .slice Aa0_f4 a0.f4.length ca0_f4, .slice Aa0_f5 a0.f5.length ca0_f5], .int .i64 a1]) (by kernel_rfl) (fun W hI => (grapevineref20_May_calls HT k a0 a1 Aa0_f3 ca0_f3 Ha0_f3 Aa0_f4 ca0_f4 Ha0_f4 Aa0_f5 ca0_f5 Ha0_f5 t2 ht3 hI))) ?_
  rintro _ _ _ ⟨rfl, rfl, rfl⟩
  refine WL.restQ 3 [1, 2, 15] (L' := [(1, .int .i64 a1), (2, .pointer (some ⟨b1, 0, none⟩)), (15, .bool (!t2))]) (by kernel_rfl) ?_
  refine WP.cond (b := (!t2)) (by kernel_rfl) (fun hc => ?_) (fun hc => ?_)
  · replace hc := hc
    rw [if_pos hc] at h
    have hc6 := hc
    clear hc
    refine WP.seqP [4, 5] (L' := [(4, .slice none 0 0), (5, .int .i64 2)]) (by kernel_rfl) ?_
    refine WP.dropAt 0 ?_
    refine WP.ret ?_
    refine QP.thenR ?_
    obtain rfl := Option.some.inj h
    refine QP.addNil ?_
    exact QP.returned [4, 5] [.slice none ([] : List Int).length 0, .int .i64 2] _ (by kernel_rfl) (by kernel_rfl) (by kernel_rfl) (fun W hI => ⟨_, _, _, rfl, ⟨none, 0, [], rfl, (Ow.nil (kInt .u8) _), rfl, rfl⟩, hI⟩)
  · replace hc := (Bool.eq_false_iff.1 hc)
    rw [if_neg hc] at h
    have hc6 := hc
    clear hc
    refine WP.skip ?_
    refine QP.next ?_
    refine WP.pick [1, 2] ?_
    refine WP.seqR ?_
    refine WL.pure 0 1 [1, 2, 16] (L' := [(1, .int .i64 a1), (2, .pointer (some ⟨b1, 0, none⟩)), (16, .pointer (some ⟨b1, 1, none⟩))]) (by kernel_rfl) (by decide) ?_
    refine WL.tell (op := .load 3 (.tmp 16)) (ty := 3) (d := some 17) (g := none) (by kernel_rfl) (by kernel_rfl) (by kernel_rfl) (Tells.load_box (i := 0) (b := b1) (o := 1) (agg := false) (by rfl) ag3 (by kernel_rfl) (fun _ => rfl) (Nat.le_of_ble_eq_true rfl) (v := .int .i64 a0.f1) (by kernel_rfl)) ?_
    refine WL.pure 2 4 [1, 2, 18, 19] (L' := [(1, .int .i64 a1), (2, .pointer (some ⟨b1, 0, none⟩)), (18, .int .u8 (IntKind.u8.wrap a0.f1)), (19, .pointer (some ⟨b1, 2, none⟩))]) (by kernel_rfl) (by decide) ?_
    refine WL.tell (op := .load 3 (.tmp 19)) (ty := 3) (d := some 20) (g := none) (by kernel_rfl) (by kernel_rfl) (by kernel_rfl) (Tells.load_box (i := 0) (b := b1) (o := 2) (agg := false) (by rfl) ag3 (by kernel_rfl) (fun _ => rfl) (Nat.le_of_ble_eq_true rfl) (v := .int .i64 a0.f2) (by kernel_rfl)) ?_
    refine WL.pure 5 8 [1, 2, 18, 21, 23] (L' := [(1, .int .i64 a1), (2, .pointer (some ⟨b1, 0, none⟩)), (18, .int .u8 (IntKind.u8.wrap a0.f1)), (21, .int .u8 (IntKind.u8.wrap a0.f2)), (23, .int .u8 (IntKind.u8.wrap a1))]) (by kernel_rfl) (by decide) ?_
    refine WL.op (op := .buildSlice 22 3 #[(0, (.tmp 18)), (1, (.tmp 21)), (2, (.tmp 23))]) (ty := 22) (d := some 24) (g := none) (by kernel_rfl) (by kernel_rfl) (by kernel_rfl) (Does.new (o := .cells #[.int .u8 (IntKind.u8.wrap a0.f1), .int .u8 (IntKind.u8.wrap a0.f2), .int .u8 (IntKind.u8.wrap a1)] 5 (0, 0)) (v := fun r => .slice (some ⟨r, 0, none⟩) 3 3) (fun r => by kernel_rfl)) ?_
    rintro _ _ _ ⟨b7, rfl, rfl, rfl⟩
    have Ho9 : Ow (kInt .u8) G (some ⟨b7, 0, none⟩) 3 ([IntKind.u8.wrap a0.f1, IntKind.u8.wrap a0.f2, IntKind.u8.wrap a1] : List Int) [(b7, .cells #[.int .u8 (IntKind.u8.wrap a0.f1), .int .u8 (IntKind.u8.wrap a0.f2), .int .u8 (IntKind.u8.wrap a1)] 5 (0, 0))] := Ow.lit (kd := (kInt .u8)) (G := G) (b := b7) (T := 5) (xs := ([IntKind.u8.wrap a0.f1, IntKind.u8.wrap a0.f2, IntKind.u8.wrap a1] : List Int)) (cs := [.int .u8 (IntKind.u8.wrap a0.f1), .int .u8 (IntKind.u8.wrap a0.f2), .int .u8 (IntKind.u8.wrap a1)]) (.cons (x := (IntKind.u8.wrap a0.f1)) (cs := [.int .u8 (IntKind.u8.wrap a0.f1)]) (by exact rfl) (.cons (x := (IntKind.u8.wrap a0.f2)) (cs := [.int .u8 (IntKind.u8.wrap a0.f2)]) (by exact rfl) (.cons (x := (IntKind.u8.wrap a1)) (cs := [.int .u8 (IntKind.u8.wrap a1)]) (by exact rfl) .nil)))
    refine WL.restQ 9 [1, 2, 6] (L' := [(1, .int .i64 a1), (2, .pointer (some ⟨b1, 0, none⟩)), (6, .slice (some ⟨b7, 0, none⟩) ([IntKind.u8.wrap a0.f1, IntKind.u8.wrap a0.f2, IntKind.u8.wrap a1] : List Int).length 3)]) (by kernel_rfl) ?_
    obtain ⟨v10, hv11, h⟩ := Option.bind_eq_some_iff.1 h
    replace hv11 := Option.some.inj hv11
    have Hn12 := Ho9
    rw [hv11] at Hn12
    refine WP.reput 6 (v := .slice (some ⟨b7, 0, none⟩) ([IntKind.u8.wrap a0.f1, IntKind.u8.wrap a0.f2, IntKind.u8.wrap a1] : List Int).length 3) (v' := .slice (some ⟨b7, 0, none⟩) v10.length 3) (by kernel_rfl) (by subst hv11; rfl) ?_
    refine WP.pick [1, 2, 6] ?_
    refine WP.seq ?_
    refine WP.seqP [1, 2, 6, 7] (L' := [(1, .int .i64 a1), (2, .pointer (some ⟨b1, 0, none⟩)), (6, .slice (some ⟨b7, 0, none⟩) v10.length 3), (7, .int .i64 0)]) (by kernel_rfl) ?_
    rw [Option.bind_eq_some_iff] at h
    obtain ⟨os13, h, hk14⟩ := h
    refine WP.cutQ (fun L' G' Γ' => ∃ s13 : (List Int), s13 = os13 ∧ ∃ (As13 : Option Addr), ∃ (cs13 : Nat), ∃ (Cs13 : Chunk), L' = [(1, .int .i64 a1), (2, .pointer (some ⟨b1, 0, none⟩)), (6, .slice As13 s13.length cs13)] ∧ G = G' ∧ Cs13 :: [(b1, .cells #[.int .i64 a0.f0, .int .i64 a0.f1, .int .i64 a0.f2, .slice Aa0_f3 a0.f3.length ca0_f3, .slice Aa0_f4 a0.f4.length ca0_f4, .slice Aa0_f5 a0.f5.length ca0_f5] 54 (0, 0))] :: Γ = Γ' ∧ Ow (kInt .u8) G As13 cs13 s13 Cs13) ?_ ?_
    · clear hk14
      refine WP.block ?_
      refine WP.pick [1, 2, 6, 7] ?_
      refine WP.loopF (fun kn17 L' G' Γ' => ∃ (y15 : List Int), ∃ (y16 : Int), grapevineref20_Lay_l0 a0 a1 kn17 y15 y16 = some os13 ∧ ∃ (Ay15 : Option Addr), ∃ (cy15 : Nat), ∃ (Cy15 : Chunk), L' = [(1, .int .i64 a1), (2, .pointer (some ⟨b1, 0, none⟩)), (6, .slice Ay15 y15.length cy15), (7, .int .i64 y16)] ∧ G = G' ∧ Cy15 :: [(b1, .cells #[.int .i64 a0.f0, .int .i64 a0.f1, .int .i64 a0.f2, .slice Aa0_f3 a0.f3.length ca0_f3, .slice Aa0_f4 a0.f4.length ca0_f4, .slice Aa0_f5 a0.f5.length ca0_f5] 54 (0, 0))] :: Γ = Γ' ∧ Ow (kInt .u8) G Ay15 cy15 y15 Cy15) ?_ k ⟨v10, 0, h, (some ⟨b7, 0, none⟩), 3, [(b7, .cells #[.int .u8 (IntKind.u8.wrap a0.f1), .int .u8 (IntKind.u8.wrap a0.f2), .int .u8 (IntKind.u8.wrap a1)] 5 (0, 0))], rfl, rfl, rfl, Hn12⟩
      clear h
      rintro kn18 _ _ _ ⟨y15, y16, h, Ay15, cy15, Cy15, rfl, rfl, rfl, Hy15⟩
      cases kn18 with
      | zero => exact absurd h (by simp [grapevineref20_Lay_l0])
      | succ kn18 =>
        simp only [grapevineref20_Lay_l0] at h
        refine WP.seq ?_
        refine WP.seqP [1, 2, 6, 7, 27] (L' := [(1, .int .i64 a1), (2, .pointer (some ⟨b1, 0, none⟩)), (6, .slice Ay15 y15.length cy15), (7, .int .i64 y16), (27, .bool (decide (y16 < a1)))]) (by kernel_rfl) ?_
        refine WP.cond (b := decide (y16 < a1)) (by kernel_rfl) (fun hc => ?_) (fun hc => ?_)
        · replace hc := of_decide_eq_true hc
          rw [if_pos hc] at h
          have hc19 := hc
          clear hc
          refine WP.skip ?_
          refine QP.next ?_
          refine WP.pick [1, 2, 6, 7] ?_
          refine WP.seq ?_
          refine WP.block ?_
          refine WP.region ?_
          refine WL.pure 0 2 [1, 2, 6, 7, 30, 31] (L' := [(1, .int .i64 a1), (2, .pointer (some ⟨b1, 0, none⟩)), (6, .slice Ay15 y15.length cy15), (7, .int .i64 y16), (30, .slice Ay15 y15.length cy15), (31, .pointer (some ⟨b1, 3, none⟩))]) (by kernel_rfl) (by decide) ?_
          refine WL.tell (op := .load 32 (.tmp 31)) (ty := 32) (d := some 32) (g := none) (by kernel_rfl) (by kernel_rfl) (by kernel_rfl) (Tells.load_box (i := 1) (b := b1) (o := 3) (agg := false) (by rfl) ag32 (by kernel_rfl) (fun _ => rfl) (Nat.le_of_ble_eq_true rfl) (v := .slice Aa0_f3 a0.f3.length ca0_f3) (by kernel_rfl)) ?_
          refine WL.pure 3 4 [1, 2, 6, 7, 30, 32, 33] (L' := [(1, .int .i64 a1), (2, .pointer (some ⟨b1, 0, none⟩)), (6, .slice Ay15 y15.length cy15), (7, .int .i64 y16), (30, .slice Ay15 y15.length cy15), (32, .slice Aa0_f3 a0.f3.length ca0_f3), (33, .int .i64 y16)]) (by kernel_rfl) (by decide) ?_
          by_cases hb20 : 0 ≤ y16 ∧ y16 < (a0.f3.length : Int)
          case neg => rw [if_neg hb20] at h; cases h
          rw [if_pos hb20] at h
          refine WL.tell (op := .indexAddr 32 (.tmp 32) (.tmp 33)) (ty := 0) (d := some 34) (g := none) (by kernel_rfl) (by kernel_rfl) (by kernel_rfl) (Tells.indexAddr (A := Aa0_f3) (n := a0.f3.length) (c := ca0_f3) (k := .i64) (j := y16) (by kernel_rfl) (by kernel_rfl) (Ha0_f3.isSome hb20.1 hb20.2) hb20.1 hb20.2 sl32) ?_
          refine WL.tellE (op := .load 3 (.tmp 34)) (ty := 3) (d := some 35) (g := none) (by kernel_rfl) (by kernel_rfl) (by kernel_rfl) (Ha0_f3.load (agg := false) hb20.1 hb20.2 0 ag3 (fun _ => rfl) (by kernel_rfl)) ?_
          rintro _ rfl
          rw [Option.bind_eq_some_iff] at h
          obtain ⟨t21, ht22, h⟩ := h
          refine WL.op (op := .call { callee := (.value (.func 56)), args := #[(.tmp 30), (.tmp 35), (.const (.int .i64 2))], argTypes := #[22, 3, 3] }) (ty := 22) (d := some 36) (g := none) (by kernel_rfl) (by kernel_rfl) (by kernel_rfl) (Does.call (f := 56) (args := [.slice Ay15 y15.length cy15, .int .i64 (a0.f3.getD y16.toNat 0), .int .i64 2]) (by kernel_rfl) (fun W hI => (grapevineref4_Num_calls kn18 y15 (a0.f3.getD y16.toNat 0) 2 Ay15 cy15 Cy15 Hy15 t21 ht22 hI))) ?_
          rintro _ _ _ ⟨AR23, cR23, CR23, rfl, HR23, rfl, rfl⟩
          refine WL.rest 7 [1, 2, 6, 7] (L' := [(1, .int .i64 a1), (2, .pointer (some ⟨b1, 0, none⟩)), (6, .slice AR23 t21.length cR23), (7, .int .i64 y16)]) (by kernel_rfl) ?_
          refine QP.blockN ?_
          refine QP.next ?_
          refine WP.pick [1, 2, 6, 7] ?_
          refine WP.regionP [1, 2, 6, 7] (L' := [(1, .int .i64 a1), (2, .pointer (some ⟨b1, 0, none⟩)), (6, .slice AR23 t21.length cR23), (7, .int .i64 (IntKind.i64.wrap (y16 + 1)))]) (by kernel_rfl) ?_
          refine QP.front (i := 1) rfl ?_
          refine QP.front (i := 1) rfl ?_
          refine QP.pick [1, 2, 6, 7] ?_
          exact QP.meet ⟨kn18, Nat.lt_succ_self _, t21, (IntKind.i64.wrap (y16 + 1)), h, AR23, cR23, CR23, rfl, rfl, rfl, HR23⟩
        · replace hc := of_decide_eq_false hc
          rw [if_neg hc] at h
          have hc19 := hc
          clear hc
          refine WP.exit ?_
          refine QP.thenE ?_
          refine QP.thenE ?_
          refine QP.blockE ?_
          refine QP.pick [1, 2, 6] ?_
          exact QP.meet ⟨_, Option.some.inj h, Ay15, cy15, Cy15, rfl, rfl, rfl, Hy15⟩
    · rintro _ _ _ ⟨s13, rfl, As13, cs13, Cs13, rfl, rfl, rfl, Hs13⟩
      clear h
      replace h := hk14
      refine QP.next ?_
      refine WP.pick [1, 2, 6] ?_
      refine WP.seq ?_
      refine WP.seqP [1, 2, 6, 8] (L' := [(1, .int .i64 a1), (2, .pointer (some ⟨b1, 0, none⟩)), (6, .slice As13 s13.length cs13), (8, .int .i64 0)]) (by kernel_rfl) ?_
      rw [Option.bind_eq_some_iff] at h
      obtain ⟨os25, h, hk26⟩ := h
      refine WP.cutQ (fun L' G' Γ' => ∃ s25 : (List Int), s25 = os25 ∧ ∃ (As25 : Option Addr), ∃ (cs25 : Nat), ∃ (Cs25 : Chunk), L' = [(2, .pointer (some ⟨b1, 0, none⟩)), (6, .slice As25 s25.length cs25)] ∧ G = G' ∧ Cs25 :: [(b1, .cells #[.int .i64 a0.f0, .int .i64 a0.f1, .int .i64 a0.f2, .slice Aa0_f3 a0.f3.length ca0_f3, .slice Aa0_f4 a0.f4.length ca0_f4, .slice Aa0_f5 a0.f5.length ca0_f5] 54 (0, 0))] :: Γ = Γ' ∧ Ow (kInt .u8) G As25 cs25 s25 Cs25) ?_ ?_
      · clear hk26
        refine WP.block ?_
        refine WP.pick [1, 2, 6, 8] ?_
        refine WP.loopF (fun kn29 L' G' Γ' => ∃ (y27 : List Int), ∃ (y28 : Int), grapevineref20_Lay_l1 a0 a1 kn29 y27 y28 = some os25 ∧ ∃ (Ay27 : Option Addr), ∃ (cy27 : Nat), ∃ (Cy27 : Chunk), L' = [(1, .int .i64 a1), (2, .pointer (some ⟨b1, 0, none⟩)), (6, .slice Ay27 y27.length cy27), (8, .int .i64 y28)] ∧ G = G' ∧ Cy27 :: [(b1, .cells #[.int .i64 a0.f0, .int .i64 a0.f1, .int .i64 a0.f2, .slice Aa0_f3 a0.f3.length ca0_f3, .slice Aa0_f4 a0.f4.length ca0_f4, .slice Aa0_f5 a0.f5.length ca0_f5] 54 (0, 0))] :: Γ = Γ' ∧ Ow (kInt .u8) G Ay27 cy27 y27 Cy27) ?_ k ⟨s13, 0, h, As13, cs13, Cs13, rfl, rfl, rfl, Hs13⟩
        clear h
        rintro kn30 _ _ _ ⟨y27, y28, h, Ay27, cy27, Cy27, rfl, rfl, rfl, Hy27⟩
        cases kn30 with
        | zero => exact absurd h (by simp [grapevineref20_Lay_l1])
        | succ kn30 =>
          simp only [grapevineref20_Lay_l1] at h
          refine WP.seq ?_
          refine WP.seqP [1, 2, 6, 8, 39] (L' := [(1, .int .i64 a1), (2, .pointer (some ⟨b1, 0, none⟩)), (6, .slice Ay27 y27.length cy27), (8, .int .i64 y28), (39, .bool (decide (y28 < a1)))]) (by kernel_rfl) ?_
          refine WP.cond (b := decide (y28 < a1)) (by kernel_rfl) (fun hc => ?_) (fun hc => ?_)
          · replace hc := of_decide_eq_true hc
            rw [if_pos hc] at h
            have hc31 := hc
            clear hc
            refine WP.skip ?_
            refine QP.next ?_
            refine WP.pick [1, 2, 6, 8] ?_
            refine WP.seq ?_
            refine WP.block ?_
            refine WP.region ?_
            refine WL.pure 0 2 [1, 2, 6, 8, 42, 43] (L' := [(1, .int .i64 a1), (2, .pointer (some ⟨b1, 0, none⟩)), (6, .slice Ay27 y27.length cy27), (8, .int .i64 y28), (42, .slice Ay27 y27.length cy27), (43, .pointer (some ⟨b1, 4, none⟩))]) (by kernel_rfl) (by decide) ?_
            refine WL.tell (op := .load 32 (.tmp 43)) (ty := 32) (d := some 44) (g := none) (by kernel_rfl) (by kernel_rfl) (by kernel_rfl) (Tells.load_box (i := 1) (b := b1) (o := 4) (agg := false) (by rfl) ag32 (by kernel_rfl) (fun _ => rfl) (Nat.le_of_ble_eq_true rfl) (v := .slice Aa0_f4 a0.f4.length ca0_f4) (by kernel_rfl)) ?_
            refine WL.pure 3 4 [1, 2, 6, 8, 42, 44, 45] (L' := [(1, .int .i64 a1), (2, .pointer (some ⟨b1, 0, none⟩)), (6, .slice Ay27 y27.length cy27), (8, .int .i64 y28), (42, .slice Ay27 y27.length cy27), (44, .slice Aa0_f4 a0.f4.length ca0_f4), (45, .int .i64 y28)]) (by kernel_rfl) (by decide) ?_
            by_cases hb32 : 0 ≤ y28 ∧ y28 < (a0.f4.length : Int)
            case neg => rw [if_neg hb32] at h; cases h
            rw [if_pos hb32] at h
            refine WL.tell (op := .indexAddr 32 (.tmp 44) (.tmp 45)) (ty := 0) (d := some 46) (g := none) (by kernel_rfl) (by kernel_rfl) (by kernel_rfl) (Tells.indexAddr (A := Aa0_f4) (n := a0.f4.length) (c := ca0_f4) (k := .i64) (j := y28) (by kernel_rfl) (by kernel_rfl) (Ha0_f4.isSome hb32.1 hb32.2) hb32.1 hb32.2 sl32) ?_
            refine WL.tellE (op := .load 3 (.tmp 46)) (ty := 3) (d := some 47) (g := none) (by kernel_rfl) (by kernel_rfl) (by kernel_rfl) (Ha0_f4.load (agg := false) hb32.1 hb32.2 0 ag3 (fun _ => rfl) (by kernel_rfl)) ?_
            rintro _ rfl
            rw [Option.bind_eq_some_iff] at h
            obtain ⟨t33, ht34, h⟩ := h
            refine WL.op (op := .call { callee := (.value (.func 56)), args := #[(.tmp 42), (.tmp 47), (.const (.int .i64 2))], argTypes := #[22, 3, 3] }) (ty := 22) (d := some 48) (g := none) (by kernel_rfl) (by kernel_rfl) (by kernel_rfl) (Does.call (f := 56) (args := [.slice Ay27 y27.length cy27, .int .i64 (a0.f4.getD y28.toNat 0), .int .i64 2]) (by kernel_rfl) (fun W hI => (grapevineref4_Num_calls kn30 y27 (a0.f4.getD y28.toNat 0) 2 Ay27 cy27 Cy27 Hy27 t33 ht34 hI))) ?_
            rintro _ _ _ ⟨AR35, cR35, CR35, rfl, HR35, rfl, rfl⟩
            refine WL.rest 7 [1, 2, 6, 8] (L' := [(1, .int .i64 a1), (2, .pointer (some ⟨b1, 0, none⟩)), (6, .slice AR35 t33.length cR35), (8, .int .i64 y28)]) (by kernel_rfl) ?_
            refine QP.blockN ?_
            refine QP.next ?_
            refine WP.pick [1, 2, 6, 8] ?_
            refine WP.regionP [1, 2, 6, 8] (L' := [(1, .int .i64 a1), (2, .pointer (some ⟨b1, 0, none⟩)), (6, .slice AR35 t33.length cR35), (8, .int .i64 (IntKind.i64.wrap (y28 + 1)))]) (by kernel_rfl) ?_
            refine QP.front (i := 1) rfl ?_
            refine QP.front (i := 1) rfl ?_
            refine QP.pick [1, 2, 6, 8] ?_
            exact QP.meet ⟨kn30, Nat.lt_succ_self _, t33, (IntKind.i64.wrap (y28 + 1)), h, AR35, cR35, CR35, rfl, rfl, rfl, HR35⟩
          · replace hc := of_decide_eq_false hc
            rw [if_neg hc] at h
            have hc31 := hc
            clear hc
            refine WP.exit ?_
            refine QP.thenE ?_
            refine QP.thenE ?_
            refine QP.blockE ?_
            refine QP.pick [2, 6] ?_
            exact QP.meet ⟨_, Option.some.inj h, Ay27, cy27, Cy27, rfl, rfl, rfl, Hy27⟩
      · rintro _ _ _ ⟨s25, rfl, As25, cs25, Cs25, rfl, rfl, rfl, Hs25⟩
        clear h
        replace h := hk26
        refine QP.next ?_
        refine WP.pick [2, 6] ?_
        refine WP.seqR ?_
        refine WL.pure 0 2 [2, 6, 49, 50] (L' := [(2, .pointer (some ⟨b1, 0, none⟩)), (6, .slice As25 s25.length cs25), (49, .slice As25 s25.length cs25), (50, .pointer (some ⟨b1, 5, none⟩))]) (by kernel_rfl) (by decide) ?_
        refine WL.tell (op := .load 52 (.tmp 50)) (ty := 52) (d := some 51) (g := none) (by kernel_rfl) (by kernel_rfl) (by kernel_rfl) (Tells.load_box (i := 1) (b := b1) (o := 5) (agg := false) (by rfl) ag52 (by kernel_rfl) (fun _ => rfl) (Nat.le_of_ble_eq_true rfl) (v := .slice Aa0_f5 a0.f5.length ca0_f5) (by kernel_rfl)) ?_
        refine WL.pure 3 4 [2, 6, 49, 52] (L' := [(2, .pointer (some ⟨b1, 0, none⟩)), (6, .slice As25 s25.length cs25), (49, .slice As25 s25.length cs25), (52, .int .i64 (a0.f5.length : Int))]) (by kernel_rfl) (by decide) ?_
        rw [Option.bind_eq_some_iff] at h
        obtain ⟨t37, ht38, h⟩ := h
        refine WL.op (op := .call { callee := (.value (.func 56)), args := #[(.tmp 49), (.tmp 52), (.const (.int .i64 1))], argTypes := #[22, 3, 3] }) (ty := 22) (d := some 53) (g := none) (by kernel_rfl) (by kernel_rfl) (by kernel_rfl) (Does.call (f := 56) (args := [.slice As25 s25.length cs25, .int .i64 (a0.f5.length : Int), .int .i64 1]) (by kernel_rfl) (fun W hI => (grapevineref4_Num_calls k s25 (a0.f5.length : Int) 1 As25 cs25 Cs25 Hs25 t37 ht38 hI))) ?_
        rintro _ _ _ ⟨AR39, cR39, CR39, rfl, HR39, rfl, rfl⟩
        refine WL.restQ 5 [2, 6] (L' := [(2, .pointer (some ⟨b1, 0, none⟩)), (6, .slice AR39 t37.length cR39)]) (by kernel_rfl) ?_
        refine WP.seq ?_
        refine WP.seqP [2, 6, 9] (L' := [(2, .pointer (some ⟨b1, 0, none⟩)), (6, .slice AR39 t37.length cR39), (9, .int .i64 0)]) (by kernel_rfl) ?_
        rw [Option.bind_eq_some_iff] at h
        obtain ⟨os41, h, hk42⟩ := h
        refine WP.cutQ (fun L' G' Γ' => ∃ s41 : (List Int), s41 = os41 ∧ ∃ (As41 : Option Addr), ∃ (cs41 : Nat), ∃ (Cs41 : Chunk), L' = [(2, .pointer (some ⟨b1, 0, none⟩)), (6, .slice As41 s41.length cs41)] ∧ G = G' ∧ Cs41 :: [(b1, .cells #[.int .i64 a0.f0, .int .i64 a0.f1, .int .i64 a0.f2, .slice Aa0_f3 a0.f3.length ca0_f3, .slice Aa0_f4 a0.f4.length ca0_f4, .slice Aa0_f5 a0.f5.length ca0_f5] 54 (0, 0))] :: Γ = Γ' ∧ Ow (kInt .u8) G As41 cs41 s41 Cs41) ?_ ?_
        · clear hk42
          refine WP.block ?_
          refine WP.pick [2, 6, 9] ?_
          refine WP.loopF (fun kn45 L' G' Γ' => ∃ (y43 : List Int), ∃ (y44 : Int), grapevineref20_Lay_l2 a0 kn45 y43 y44 = some os41 ∧ ∃ (Ay43 : Option Addr), ∃ (cy43 : Nat), ∃ (Cy43 : Chunk), L' = [(2, .pointer (some ⟨b1, 0, none⟩)), (6, .slice Ay43 y43.length cy43), (9, .int .i64 y44)] ∧ G = G' ∧ Cy43 :: [(b1, .cells #[.int .i64 a0.f0, .int .i64 a0.f1, .int .i64 a0.f2, .slice Aa0_f3 a0.f3.length ca0_f3, .slice Aa0_f4 a0.f4.length ca0_f4, .slice Aa0_f5 a0.f5.length ca0_f5] 54 (0, 0))] :: Γ = Γ' ∧ Ow (kInt .u8) G Ay43 cy43 y43 Cy43) ?_ k ⟨t37, 0, h, AR39, cR39, CR39, rfl, rfl, rfl, HR39⟩
          clear h
          rintro kn46 _ _ _ ⟨y43, y44, h, Ay43, cy43, Cy43, rfl, rfl, rfl, Hy43⟩
          cases kn46 with
          | zero => exact absurd h (by simp [grapevineref20_Lay_l2])
          | succ kn46 =>
            simp only [grapevineref20_Lay_l2] at h
            refine WP.seq ?_
            refine WP.seqR ?_
            refine WL.pure 0 2 [2, 6, 9, 54, 55] (L' := [(2, .pointer (some ⟨b1, 0, none⟩)), (6, .slice Ay43 y43.length cy43), (9, .int .i64 y44), (54, .int .i64 y44), (55, .pointer (some ⟨b1, 5, none⟩))]) (by kernel_rfl) (by decide) ?_
            refine WL.tell (op := .load 52 (.tmp 55)) (ty := 52) (d := some 56) (g := none) (by kernel_rfl) (by kernel_rfl) (by kernel_rfl) (Tells.load_box (i := 1) (b := b1) (o := 5) (agg := false) (by rfl) ag52 (by kernel_rfl) (fun _ => rfl) (Nat.le_of_ble_eq_true rfl) (v := .slice Aa0_f5 a0.f5.length ca0_f5) (by kernel_rfl)) ?_
            refine WL.restQ 3 [2, 6, 9, 58] (L' := [(2, .pointer (some ⟨b1, 0, none⟩)), (6, .slice Ay43 y43.length cy43), (9, .int .i64 y44), (58, .bool (decide (y44 < (a0.f5.length : Int))))]) (by kernel_rfl) ?_
            refine WP.cond (b := decide (y44 < (a0.f5.length : Int))) (by kernel_rfl) (fun hc => ?_) (fun hc => ?_)
            · replace hc := of_decide_eq_true hc
              rw [if_pos hc] at h
              have hc47 := hc
              clear hc
              refine WP.skip ?_
              refine QP.next ?_
              refine WP.pick [2, 6, 9] ?_
              refine WP.seq ?_
              refine WP.block ?_
              refine WP.seqR ?_
              refine WL.pure 0 1 [2, 6, 9, 62] (L' := [(2, .pointer (some ⟨b1, 0, none⟩)), (6, .slice Ay43 y43.length cy43), (9, .int .i64 y44), (62, .pointer (some ⟨b1, 5, none⟩))]) (by kernel_rfl) (by decide) ?_
              refine WL.tell (op := .load 52 (.tmp 62)) (ty := 52) (d := some 63) (g := none) (by kernel_rfl) (by kernel_rfl) (by kernel_rfl) (Tells.load_box (i := 1) (b := b1) (o := 5) (agg := false) (by rfl) ag52 (by kernel_rfl) (fun _ => rfl) (Nat.le_of_ble_eq_true rfl) (v := .slice Aa0_f5 a0.f5.length ca0_f5) (by kernel_rfl)) ?_
              refine WL.pure 2 3 [2, 6, 9, 63, 64] (L' := [(2, .pointer (some ⟨b1, 0, none⟩)), (6, .slice Ay43 y43.length cy43), (9, .int .i64 y44), (63, .slice Aa0_f5 a0.f5.length ca0_f5), (64, .int .i64 y44)]) (by kernel_rfl) (by decide) ?_
              by_cases hb48 : 0 ≤ y44 ∧ y44 < (a0.f5.length : Int)
              case neg => rw [if_neg hb48] at h; cases h
              rw [if_pos hb48] at h
              refine WL.tell (op := .indexAddr 52 (.tmp 63) (.tmp 64)) (ty := 0) (d := some 65) (g := none) (by kernel_rfl) (by kernel_rfl) (by kernel_rfl) (Tells.indexAddr (A := Aa0_f5) (n := a0.f5.length) (c := ca0_f5) (k := .i64) (j := y44) (by kernel_rfl) (by kernel_rfl) (Ha0_f5.isSome hb48.1 hb48.2) hb48.1 hb48.2 sl52) ?_
              refine WL.tellE (op := .load 39 (.tmp 65)) (ty := 39) (d := some 66) (g := none) (by kernel_rfl) (by kernel_rfl) (by kernel_rfl) (Ha0_f5.load (agg := true) hb48.1 hb48.2 z39 ag39 (fun h => by cases h) (by kernel_rfl)) ?_
              rintro _ rfl
              rw [Option.bind_eq_some_iff] at h
              obtain ⟨t49, ht50, h⟩ := h
              refine WL.op (op := .call { callee := (.value (.func 57)), args := #[(.tmp 66)], argTypes := #[39] }) (ty := 57) (d := some 67) (g := none) (by kernel_rfl) (by kernel_rfl) (by kernel_rfl) (Does.call (f := 57) (args := [.agg #[.int .i64 ((a0.f5.getD y44.toNat z39).f0), .int .i64 ((a0.f5.getD y44.toNat z39).f1), .int .i64 ((a0.f5.getD y44.toNat z39).f2), .int .i64 ((a0.f5.getD y44.toNat z39).f3), .string ((a0.f5.getD y44.toNat z39).f4)]]) (by kernel_rfl) (fun W hI => (grapevineref4_Lay_calls HT kn46 (a0.f5.getD y44.toNat z39)  t49 ht50 hI))) ?_
              rintro _ _ _ ⟨AR510, cR510, CR510, rfl, HR510, rfl, rfl⟩
              refine WL.restQ 6 [2, 6, 9, 10] (L' := [(2, .pointer (some ⟨b1, 0, none⟩)), (6, .slice Ay43 y43.length cy43), (9, .int .i64 y44), (10, .slice AR510 t49.1.length cR510)]) (by kernel_rfl) ?_
              refine WP.region ?_
              refine WL.pure 0 2 [2, 6, 9, 70, 71] (L' := [(2, .pointer (some ⟨b1, 0, none⟩)), (6, .slice Ay43 y43.length cy43), (9, .int .i64 y44), (70, .slice Ay43 y43.length cy43), (71, .slice AR510 t49.1.length cR510)]) (by kernel_rfl) (by decide) ?_
              by_cases hb53 : y43.length + t49.1.length ≤ 1073741824
              case neg => rw [if_neg hb53] at h; cases h
              rw [if_pos hb53] at h
              refine WL.op (op := .call { callee := (.builtin .append), args := #[(.tmp 70), (.tmp 71)], argTypes := #[22, 22] }) (ty := 22) (d := some 72) (g := none) (by kernel_rfl) (by kernel_rfl) (by kernel_rfl) (Ow.append (ys := t49.1) (v := .slice AR510 t49.1.length cR510) Hy43 (i := 1) rfl (by kernel_rfl) (by kernel_rfl) (HR510.src (i := 0) rfl) sl22 ze5 nt22 (by decide) hb53) ?_
              rintro _ _ _ ⟨rfl, AN54, cN54, CN54, rfl, HN54, rfl⟩
              refine WL.rest 3 [2, 6, 9] (L' := [(2, .pointer (some ⟨b1, 0, none⟩)), (6, .slice AN54 (y43 ++ t49.1).length cN54), (9, .int .i64 y44)]) (by kernel_rfl) ?_
              refine QP.blockN ?_
              refine QP.next ?_
              refine WP.pick [2, 6, 9] ?_
              refine WP.regionP [2, 6, 9] (L' := [(2, .pointer (some ⟨b1, 0, none⟩)), (6, .slice AN54 (y43 ++ t49.1).length cN54), (9, .int .i64 (IntKind.i64.wrap (y44 + 1)))]) (by kernel_rfl) ?_
              refine QP.dropAt 0 ?_
              refine QP.front (i := 1) rfl ?_
              refine QP.front (i := 1) rfl ?_
              refine QP.pick [2, 6, 9] ?_
              exact QP.meet ⟨kn46, Nat.lt_succ_self _, (y43 ++ t49.1), (IntKind.i64.wrap (y44 + 1)), h, AN54, cN54, CN54, rfl, rfl, rfl, HN54⟩
            · replace hc := of_decide_eq_false hc
              rw [if_neg hc] at h
              have hc47 := hc
              clear hc
              refine WP.exit ?_
              refine QP.thenE ?_
              refine QP.thenE ?_
              refine QP.blockE ?_
              refine QP.pick [2, 6] ?_
              exact QP.meet ⟨_, Option.some.inj h, Ay43, cy43, Cy43, rfl, rfl, rfl, Hy43⟩
        · rintro _ _ _ ⟨s41, rfl, As41, cs41, Cs41, rfl, rfl, rfl, Hs41⟩
          clear h
          replace h := hk42
          refine QP.next ?_
          refine WP.pick [2, 6] ?_
          refine WP.seqR ?_
          refine WL.pure 0 1 [6, 73] (L' := [(6, .slice As41 s41.length cs41), (73, .pointer (some ⟨b1, 0, none⟩))]) (by kernel_rfl) (by decide) ?_
          refine WL.tell (op := .load 3 (.tmp 73)) (ty := 3) (d := some 74) (g := none) (by kernel_rfl) (by kernel_rfl) (by kernel_rfl) (Tells.load_box (i := 1) (b := b1) (o := 0) (agg := false) (by rfl) ag3 (by kernel_rfl) (fun _ => rfl) (Nat.le_of_ble_eq_true rfl) (v := .int .i64 a0.f0) (by kernel_rfl)) ?_
          refine WL.pure 2 3 [74, 75] (L' := [(74, .int .i64 a0.f0), (75, .slice As41 s41.length cs41)]) (by kernel_rfl) (by decide) ?_
          rw [Option.bind_eq_some_iff] at h
          obtain ⟨t55, ht56, h⟩ := h
          refine WL.op (op := .call { callee := (.value (.func 58)), args := #[(.tmp 74), (.tmp 75)], argTypes := #[3, 22] }) (ty := 57) (d := some 76) (g := none) (by kernel_rfl) (by kernel_rfl) (by kernel_rfl) (Does.call (Φ := fun v' G' Γ' => ∃ (AR570 : Option Addr), ∃ (cR570 : Nat), ∃ (CR570 : Chunk), v' = .tuple #[.slice AR570 t55.1.length cR570, .int .i64 t55.2] ∧ Ow (kInt .u8) G AR570 cR570 t55.1 CR570 ∧ G = G' ∧ CR570 :: Cs41 :: [(b1, .cells #[.int .i64 a0.f0, .int .i64 a0.f1, .int .i64 a0.f2, .slice Aa0_f3 a0.f3.length ca0_f3, .slice Aa0_f4 a0.f4.length ca0_f4, .slice Aa0_f5 a0.f5.length ca0_f5] 54 (0, 0))] :: Γ = Γ') (f := 58) (args := [.int .i64 a0.f0, .slice As41 s41.length cs41]) (by kernel_rfl) (fun W hI => (Calls.lendN (Φ := fun v' N => ∃ (AR570 : Option Addr), ∃ (cR570 : Nat), ∃ (CR570 : Chunk), v' = .tuple #[.slice AR570 t55.1.length cR570, .int .i64 t55.2] ∧ Ow (kInt .u8) G AR570 cR570 t55.1 CR570 ∧ N = [CR570]) (H := []) (i := 0) rfl hI (fun _ e l59 nl59 hI => by subst e; exact (((grapevineref6_Lay_calls k a0.f0 s41 As41 cs41 (Hs41.rdN l59 nl59) t55 ht56 hI)).mono fun _ _ hr => by obtain ⟨_, _, _, rfl, hd, hI⟩ := hr; obtain ⟨AR570, cR570, CR570, rfl, HR570, rfl, rfl⟩ := hd; exact ⟨_, _, _, rfl, ⟨[CR570], ⟨AR570, cR570, CR570, rfl, (HR570.flat (kInt_flat _)), rfl⟩, rfl, rfl⟩, hI⟩))).mono fun _ _ hr => by obtain ⟨_, _, _, rfl, ⟨_, hd, rfl, rfl⟩, hI⟩ := hr; obtain ⟨AR570, cR570, CR570, rfl, HR570, rfl⟩ := hd; exact ⟨_, _, _, rfl, ⟨AR570, cR570, CR570, rfl, HR570, rfl, rfl⟩, hI⟩)) ?_
          rintro _ _ _ ⟨AR570, cR570, CR570, rfl, HR570, rfl, rfl⟩
          refine WL.restQ 4 [4, 5] (L' := [(4, .slice AR570 t55.1.length cR570), (5, .int .i64 t55.2)]) (by kernel_rfl) ?_
          refine WP.dropAt 2 ?_
          refine WP.dropAt 1 ?_
          refine WP.ret ?_
          obtain rfl := Option.some.inj h
          exact QP.returned [4, 5] [.slice AR570 t55.1.length cR570, .int .i64 t55.2] _ (by kernel_rfl) (by kernel_rfl) (by kernel_rfl) (fun W hI => ⟨_, _, _, rfl, ⟨AR570, cR570, CR570, rfl, HR570, rfl, rfl⟩, hI⟩)

/-! ### grapevine/grapevinelaw0.Num: function 28 -/
def grapevinelaw0_Num (a0 : Int) : Option Int := some a0
set_option maxHeartbeats 4000000 in
theorem grapevinelaw0_Num_calls {B : World} {G : GMap} {Γ : List Chunk} {W : World} (a0 : Int) (r : Int) (h : grapevinelaw0_Num a0 = some r) (hI : Inv B G (Γ) W) :
    Calls Tryd.prog 28 [.int .i64 a0].toArray W (Ret B (fun v G' Γ' => v = .int .i64 r ∧ G = G' ∧ Γ = Γ')) := by
  refine calls_WP (Γ := Γ) (G := G) (B := B) Tryd.func28 rfl (by kernel_rfl) ?_ hI
  clear hI
  unfold grapevinelaw0_Num at h
  refine WP.seqP [0] (L' := [(0, .int .i64 a0)]) (by kernel_rfl) ?_
  refine WP.seqP [2] (L' := [(2, .int .i64 a0)]) (by kernel_rfl) ?_
  refine WP.ret ?_
  obtain rfl := Option.some.inj h
  exact QP.returned [2] [.int .i64 a0] _ (by kernel_rfl) (by kernel_rfl) (by kernel_rfl) (fun W hI => ⟨_, _, _, rfl, ⟨rfl, rfl, rfl⟩, hI⟩)

/-! ### grapevine/grapevinelaw0.OverBytes: function 33 -/
def grapevinelaw0_OverBytes_l0 : Nat → Int → (List Int) → Option (List Int)
  | 0, _, _ => none
  | k + 1, y3, y4 => (if y3 < (y4.length : Int) then (if 0 ≤ y3 ∧ y3 < (y4.length : Int) then grapevinelaw0_OverBytes_l0 k (IntKind.i64.wrap (y3 + 1)) (y4.set y3.toNat 238) else none) else some y4)
def grapevinelaw0_OverBytes (k : Nat) (l0 : List Int) : Option Unit := ((grapevinelaw0_OverBytes_l0 k 0 l0).bind fun s1 => (if s1.length + ([238] : List Int).length ≤ 1073741824 then some () else none))
set_option maxHeartbeats 4000000 in
theorem grapevinelaw0_OverBytes_calls {B : World} {G : GMap} {Γ : List Chunk} {W : World} (k : Nat) (l0 : List Int) (Al0 : Option Addr) (cl0 : Nat) (Cl0 : Chunk) (Hl0 : Ow (kInt .u8) G Al0 cl0 l0 Cl0) (r : Unit) (h : grapevinelaw0_OverBytes k l0 = some r) (hI : Inv B G (Cl0 :: Γ) W) :
    Calls Tryd.prog 33 [.slice Al0 l0.length cl0].toArray W (Ret B (fun v G' Γ' => v = .tuple #[] ∧ G = G' ∧ Γ = Γ')) := by
  refine calls_WP (Γ := Cl0 :: Γ) (G := G) (B := B) Tryd.func33 rfl (by kernel_rfl) ?_ hI
  clear hI
  unfold grapevinelaw0_OverBytes at h
  refine WP.seq ?_
  refine WP.seqP [0, 2] (L' := [(0, .slice Al0 l0.length cl0), (2, .int .i64 0)]) (by kernel_rfl) ?_
  rw [Option.bind_eq_some_iff] at h
  obtain ⟨os1, h, hk2⟩ := h
  refine WP.cutQ (fun L' G' Γ' => ∃ s1 : (List Int), s1 = os1 ∧ ∃ (As1 : Option Addr), ∃ (cs1 : Nat), ∃ (Cs1 : Chunk), L' = [(0, .slice As1 s1.length cs1)] ∧ G = G' ∧ Cs1 :: Γ = Γ' ∧ Ow (kInt .u8) G As1 cs1 s1 Cs1) ?_ ?_
  · clear hk2
    refine WP.block ?_
    refine WP.pick [0, 2] ?_
    refine WP.loopF (fun kn5 L' G' Γ' => ∃ (y3 : Int), ∃ (y4 : List Int), grapevinelaw0_OverBytes_l0 kn5 y3 y4 = some os1 ∧ ∃ (Ay4 : Option Addr), ∃ (cy4 : Nat), ∃ (Cy4 : Chunk), L' = [(0, .slice Ay4 y4.length cy4), (2, .int .i64 y3)] ∧ G = G' ∧ Cy4 :: Γ = Γ' ∧ Ow (kInt .u8) G Ay4 cy4 y4 Cy4) ?_ k ⟨0, l0, h, Al0, cl0, Cl0, rfl, rfl, rfl, Hl0⟩
    clear h
    rintro kn6 _ _ _ ⟨y3, y4, h, Ay4, cy4, Cy4, rfl, rfl, rfl, Hy4⟩
    cases kn6 with
    | zero => exact absurd h (by simp [grapevinelaw0_OverBytes_l0])
    | succ kn6 =>
      simp only [grapevinelaw0_OverBytes_l0] at h
      refine WP.seq ?_
      refine WP.seqP [0, 2, 6] (L' := [(0, .slice Ay4 y4.length cy4), (2, .int .i64 y3), (6, .bool (decide (y3 < (y4.length : Int))))]) (by kernel_rfl) ?_
      refine WP.cond (b := decide (y3 < (y4.length : Int))) (by kernel_rfl) (fun hc => ?_) (fun hc => ?_)
      · replace hc := of_decide_eq_true hc
        rw [if_pos hc] at h
        have hc7 := hc
        clear hc
        refine WP.skip ?_
        refine QP.next ?_
        refine WP.pick [0, 2] ?_
        refine WP.seq ?_
        refine WP.block ?_
        refine WP.region ?_
        refine WL.pure 0 2 [0, 2, 9, 10] (L' := [(0, .slice Ay4 y4.length cy4), (2, .int .i64 y3), (9, .slice Ay4 y4.length cy4), (10, .int .i64 y3)]) (by kernel_rfl) (by decide) ?_
        by_cases hb8 : 0 ≤ y3 ∧ y3 < (y4.length : Int)
        case neg => rw [if_neg hb8] at h; cases h
        rw [if_pos hb8] at h
        refine WL.tell (op := .indexAddr 22 (.tmp 9) (.tmp 10)) (ty := 0) (d := some 11) (g := none) (by kernel_rfl) (by kernel_rfl) (by kernel_rfl) (Tells.indexAddr (A := Ay4) (n := y4.length) (c := cy4) (k := .i64) (j := y3) (by kernel_rfl) (by kernel_rfl) (Hy4.isSome hb8.1 hb8.2) hb8.1 hb8.2 sl22) ?_
        refine WL.op (op := .store 5 (.tmp 11) (.const (.int .u8 238))) (ty := 0) (d := none) (g := none) (by kernel_rfl) (by kernel_rfl) (by kernel_rfl) (Ow.store Hy4 (i := 0) rfl hb8.1 hb8.2 (z := 238) (v := .int .u8 238) (by kernel_rfl) (by kernel_rfl) sz5 (by exact rfl)) ?_
        rintro _ _ _ ⟨rfl, rfl, C9, Ho10, rfl⟩
        refine WL.reput 0 (v := .slice Ay4 y4.length cy4) (v' := .slice Ay4 (y4.set y3.toNat 238).length cy4) (by kernel_rfl) (by rw [List.length_set]) ?_
        refine WL.rest 4 [0, 2] (L' := [(0, .slice Ay4 (y4.set y3.toNat 238).length cy4), (2, .int .i64 y3)]) (by kernel_rfl) ?_
        refine QP.blockN ?_
        refine QP.next ?_
        refine WP.pick [0, 2] ?_
        refine WP.regionP [0, 2] (L' := [(0, .slice Ay4 (y4.set y3.toNat 238).length cy4), (2, .int .i64 (IntKind.i64.wrap (y3 + 1)))]) (by kernel_rfl) ?_
        refine QP.pick [0, 2] ?_
        exact QP.meet ⟨kn6, Nat.lt_succ_self _, (IntKind.i64.wrap (y3 + 1)), (y4.set y3.toNat 238), h, Ay4, cy4, C9, rfl, rfl, rfl, Ho10⟩
      · replace hc := of_decide_eq_false hc
        rw [if_neg hc] at h
        have hc7 := hc
        clear hc
        refine WP.exit ?_
        refine QP.thenE ?_
        refine QP.thenE ?_
        refine QP.blockE ?_
        refine QP.pick [0] ?_
        exact QP.meet ⟨_, Option.some.inj h, Ay4, cy4, Cy4, rfl, rfl, rfl, Hy4⟩
  · rintro _ _ _ ⟨s1, rfl, As1, cs1, Cs1, rfl, rfl, rfl, Hs1⟩
    clear h
    replace h := hk2
    refine QP.next ?_
    refine WP.pick [0] ?_
    refine WP.region ?_
    refine WL.pure 0 1 [12] (L' := [(12, .slice As1 s1.length cs1)]) (by kernel_rfl) (by decide) ?_
    refine WL.op (op := .buildSlice 22 1 #[(0, (.const (.int .u8 238)))]) (ty := 22) (d := some 13) (g := none) (by kernel_rfl) (by kernel_rfl) (by kernel_rfl) (Does.new (o := .cells #[.int .u8 238] 5 (0, 0)) (v := fun r => .slice (some ⟨r, 0, none⟩) 1 1) (fun r => by kernel_rfl)) ?_
    rintro _ _ _ ⟨b11, rfl, rfl, rfl⟩
    have Ho13 : Ow (kInt .u8) G (some ⟨b11, 0, none⟩) 1 ([238] : List Int) [(b11, .cells #[.int .u8 238] 5 (0, 0))] := Ow.lit (kd := (kInt .u8)) (G := G) (b := b11) (T := 5) (xs := ([238] : List Int)) (cs := [.int .u8 238]) (.cons (x := 238) (cs := [.int .u8 238]) (by exact rfl) .nil)
    by_cases hb14 : s1.length + ([238] : List Int).length ≤ 1073741824
    case neg => rw [if_neg hb14] at h; cases h
    rw [if_pos hb14] at h
    refine WL.op (op := .call { callee := (.builtin .append), args := #[(.tmp 12), (.tmp 13)], argTypes := #[22, 22] }) (ty := 22) (d := some 14) (g := none) (by kernel_rfl) (by kernel_rfl) (by kernel_rfl) (Ow.append (ys := ([238] : List Int)) (v := .slice (some ⟨b11, 0, none⟩) ([238] : List Int).length 1) Hs1 (i := 1) rfl (by kernel_rfl) (by kernel_rfl) (Ho13.src (i := 0) rfl) sl22 ze5 nt22 (by decide) hb14) ?_
    rintro _ _ _ ⟨rfl, AN15, cN15, CN15, rfl, HN15, rfl⟩
    refine WL.rest 3 [] (L' := []) (by kernel_rfl) ?_
    obtain rfl := Option.some.inj h
    refine QP.dropAt 1 ?_
    refine QP.dropAt 0 ?_
    exact QP.returnedN [] [] _ (by kernel_rfl) (by kernel_rfl) (by kernel_rfl) (fun W hI => ⟨_, _, _, rfl, ⟨rfl, rfl, rfl⟩, hI⟩)
end Go.Proofs.YtfocilpnbiciaaaDoor.Gf
