/- Walks of Go functions: what each tells, as a plain Lean function, and that the Go code comes to it. Written by gg.py of this repo. -/
import Derived.Test.YtbphlohiealbeaaDoorT
import Derived.Test.YtbphlohiealbeaaDoorF0
import Derived.Test.YtbphlohiealbeaaDoorF3
import Derived.Test.YtbphlohiealbeaaDoorF4
namespace Go.Proofs.YtbphlohiealbeaaDoor.Gf
open Go Go.Gg
set_option maxRecDepth 100000
set_option linter.unusedVariables false
set_option linter.unusedSimpArgs false

/-! ### grapevine/grapevineref14.May: function 28 -/
def grapevineref14_May (k : Nat) (a0 : T25) : Option Bool := (((grapevineref14_Deep k a0).bind fun t4 => (if t4 ≤ 6 then ((grapevineref14_Terms k a0).bind fun t9 => (if t9 ≤ 16 then ((grapevineref14_form k a0).bind fun t14 => some t14) else some false)) else some false)).bind fun s2 => some s2)
set_option maxHeartbeats 4000000 in
theorem grapevineref14_May_calls {B : World} {G : GMap} {Γ : List Chunk} {W : World} (HT : Tabs B G) (k : Nat) (a0 : T25) (Aa0_f2 : Option Addr) (ca0_f2 : Nat) (Ha0_f2 : Rd kStr G Aa0_f2 ca0_f2 a0.f2) (Aa0_f3 : Option Addr) (ca0_f3 : Nat) (Ha0_f3 : Rd k25 G Aa0_f3 ca0_f3 a0.f3) (r : Bool) (h : grapevineref14_May k a0 = some r) (hI : Inv B G (Γ) W) :
    Calls Tryd.prog 28 [.agg #[.int .i64 a0.f0, .int .i64 a0.f1, .slice Aa0_f2 a0.f2.length ca0_f2, .slice Aa0_f3 a0.f3.length ca0_f3]].toArray W (Ret B (fun v G' Γ' => v = .bool r ∧ G = G' ∧ Γ = Γ')) := by
  refine calls_WP (Γ := Γ) (G := G) (B := B) Tryd.func28 rfl (by kernel_rfl) ?_ hI
  clear hI
  unfold grapevineref14_May at h
  refine WP.seqR ?_
  refine WL.op (op := .box 25 (.tmp 0)) (ty := 0) (d := some 1) (g := none) (by kernel_rfl) (by kernel_rfl) (by kernel_rfl) (Does.new (o := .cells #[.int .i64 a0.f0, .int .i64 a0.f1, .slice Aa0_f2 a0.f2.length ca0_f2, .slice Aa0_f3 a0.f3.length ca0_f3] 25 (0, 0)) (v := fun r => .pointer (some ⟨r, 0, none⟩)) (fun r => by kernel_rfl)) ?_
  rintro _ _ _ ⟨b1, rfl, rfl, rfl⟩
  refine WL.restQ 1 [1] (L' := [(1, .pointer (some ⟨b1, 0, none⟩))]) (by kernel_rfl) ?_
  rw [Option.bind_eq_some_iff] at h
  obtain ⟨os2, h, hk3⟩ := h
  refine WP.cut (fun L' G' Γ' => ∃ s2 : Bool, s2 = os2 ∧ L' = [(2, .bool s2)] ∧ G = G' ∧ Γ = Γ') ?_ ?_
  · clear hk3
    refine WP.region ?_
    refine WL.tell (op := .load 25 (.tmp 1)) (ty := 25) (d := some 3) (g := none) (by kernel_rfl) (by kernel_rfl) (by kernel_rfl) (Tells.load_box (i := 0) (b := b1) (o := 0) (agg := true) (by rfl) ag25 (by kernel_rfl) (fun h => by cases h) (Nat.le_of_ble_eq_true rfl) (v := .agg #[.int .i64 a0.f0, .int .i64 a0.f1, .slice Aa0_f2 a0.f2.length ca0_f2, .slice Aa0_f3 a0.f3.length ca0_f3]) (by kernel_rfl)) ?_
    rw [Option.bind_eq_some_iff] at h
    obtain ⟨t4, ht5, h⟩ := h
    refine WL.op (op := .call { callee := (.value (.func 51)), args := #[(.tmp 3)], argTypes := #[25] }) (ty := 3) (d := some 4) (g := none) (by kernel_rfl) (by kernel_rfl) (by kernel_rfl) (Does.call (f := 51) (args := [.agg #[.int .i64 a0.f0, .int .i64 a0.f1, .slice Aa0_f2 a0.f2.length ca0_f2, .slice Aa0_f3 a0.f3.length ca0_f3]]) (by kernel_rfl) (fun W hI => (grapevineref14_Deep_calls k a0 Aa0_f2 ca0_f2 Ha0_f2 Aa0_f3 ca0_f3 Ha0_f3 t4 ht5 hI))) ?_
    rintro _ _ _ ⟨rfl, rfl, rfl⟩
    refine WL.pure 2 4 [1, 6] (L' := [(1, .pointer (some ⟨b1, 0, none⟩)), (6, .bool (decide (t4 ≤ 6)))]) (by kernel_rfl) (by decide) ?_
    refine WL.split 6 (b := decide (t4 ≤ 6)) (by kernel_rfl) (fun hc => ?_) (fun hc => ?_)
    · replace hc := of_decide_eq_true hc
      rw [if_pos hc] at h
      have hc8 := hc
      clear hc
      refine WL.tell (op := .load 25 (.tmp 1)) (ty := 25) (d := some 7) (g := some (3, true)) (by kernel_rfl) (by kernel_rfl) (by kernel_rfl) (Tells.load_box (i := 0) (b := b1) (o := 0) (agg := true) (by rfl) ag25 (by kernel_rfl) (fun h => by cases h) (Nat.le_of_ble_eq_true rfl) (v := .agg #[.int .i64 a0.f0, .int .i64 a0.f1, .slice Aa0_f2 a0.f2.length ca0_f2, .slice Aa0_f3 a0.f3.length ca0_f3]) (by kernel_rfl)) ?_
      rw [Option.bind_eq_some_iff] at h
      obtain ⟨t9, ht10, h⟩ := h
      refine WL.op (op := .call { callee := (.value (.func 52)), args := #[(.tmp 7)], argTypes := #[25] }) (ty := 3) (d := some 8) (g := some (3, true)) (by kernel_rfl) (by kernel_rfl) (by kernel_rfl) (Does.call (f := 52) (args := [.agg #[.int .i64 a0.f0, .int .i64 a0.f1, .slice Aa0_f2 a0.f2.length ca0_f2, .slice Aa0_f3 a0.f3.length ca0_f3]]) (by kernel_rfl) (fun W hI => (grapevineref14_Terms_calls k a0 Aa0_f2 ca0_f2 Ha0_f2 Aa0_f3 ca0_f3 Ha0_f3 t9 ht10 hI))) ?_
      rintro _ _ _ ⟨rfl, rfl, rfl⟩
      refine WL.pure 6 9 [1, 11] (L' := [(1, .pointer (some ⟨b1, 0, none⟩)), (11, .bool (decide (t9 ≤ 16)))]) (by kernel_rfl) (by decide) ?_
      refine WL.split 11 (b := decide (t9 ≤ 16)) (by kernel_rfl) (fun hc => ?_) (fun hc => ?_)
      · replace hc := of_decide_eq_true hc
        rw [if_pos hc] at h
        have hc13 := hc
        clear hc
        refine WL.tell (op := .load 25 (.tmp 1)) (ty := 25) (d := some 12) (g := some (8, true)) (by kernel_rfl) (by kernel_rfl) (by kernel_rfl) (Tells.load_box (i := 0) (b := b1) (o := 0) (agg := true) (by rfl) ag25 (by kernel_rfl) (fun h => by cases h) (Nat.le_of_ble_eq_true rfl) (v := .agg #[.int .i64 a0.f0, .int .i64 a0.f1, .slice Aa0_f2 a0.f2.length ca0_f2, .slice Aa0_f3 a0.f3.length ca0_f3]) (by kernel_rfl)) ?_
        rw [Option.bind_eq_some_iff] at h
        obtain ⟨t14, ht15, h⟩ := h
        refine WL.op (op := .call { callee := (.value (.func 53)), args := #[(.tmp 12)], argTypes := #[25] }) (ty := 4) (d := some 13) (g := some (8, true)) (by kernel_rfl) (by kernel_rfl) (by kernel_rfl) (Does.call (f := 53) (args := [.agg #[.int .i64 a0.f0, .int .i64 a0.f1, .slice Aa0_f2 a0.f2.length ca0_f2, .slice Aa0_f3 a0.f3.length ca0_f3]]) (by kernel_rfl) (fun W hI => (grapevineref14_form_calls HT k a0 Aa0_f2 ca0_f2 Ha0_f2 Aa0_f3 ca0_f3 Ha0_f3 t14 ht15 hI))) ?_
        rintro _ _ _ ⟨rfl, rfl, rfl⟩
        refine WL.rest 11 [2] (L' := [(2, .bool t14)]) (by kernel_rfl) ?_
        refine QP.dropAt 0 ?_
        refine QP.pick [2] ?_
        exact QP.meet ⟨_, Option.some.inj h, rfl, rfl, rfl⟩
      · replace hc := of_decide_eq_false hc
        rw [if_neg hc] at h
        have hc13 := hc
        clear hc
        refine WL.rest 9 [2] (L' := [(2, .bool false)]) (by kernel_rfl) ?_
        refine QP.dropAt 0 ?_
        refine QP.pick [2] ?_
        exact QP.meet ⟨_, Option.some.inj h, rfl, rfl, rfl⟩
    · replace hc := of_decide_eq_false hc
      rw [if_neg hc] at h
      have hc8 := hc
      clear hc
      refine WL.rest 4 [2] (L' := [(2, .bool false)]) (by kernel_rfl) ?_
      refine QP.dropAt 0 ?_
      refine QP.pick [2] ?_
      exact QP.meet ⟨_, Option.some.inj h, rfl, rfl, rfl⟩
  · rintro _ _ _ ⟨s2, rfl, rfl, rfl, rfl⟩
    clear h
    replace h := hk3
    refine WP.ret ?_
    obtain rfl := Option.some.inj h
    exact QP.returned [2] [.bool s2] _ (by kernel_rfl) (by kernel_rfl) (by kernel_rfl) (fun W hI => ⟨_, _, _, rfl, ⟨rfl, rfl, rfl⟩, hI⟩)

/-! ### grapevine/grapevineref4.MayKey: function 54 -/
def grapevineref4_MayKey (a0 : T27) : Option Bool := ((if a0.f0 ≥ 0 then (if a0.f0 < 8 then (if a0.f1 ≥ 1 then some (decide (a0.f1 ≤ 1023)) else some false) else some false) else some false).bind fun s2 => some s2)
set_option maxHeartbeats 4000000 in
theorem grapevineref4_MayKey_calls {B : World} {G : GMap} {Γ : List Chunk} {W : World} (a0 : T27) (r : Bool) (h : grapevineref4_MayKey a0 = some r) (hI : Inv B G (Γ) W) :
    Calls Tryd.prog 54 [.agg #[.int .i64 a0.f0, .int .i64 a0.f1]].toArray W (Ret B (fun v G' Γ' => v = .bool r ∧ G = G' ∧ Γ = Γ')) := by
  refine calls_WP (Γ := Γ) (G := G) (B := B) Tryd.func54 rfl (by kernel_rfl) ?_ hI
  clear hI
  unfold grapevineref4_MayKey at h
  refine WP.seqR ?_
  refine WL.op (op := .box 27 (.tmp 0)) (ty := 0) (d := some 1) (g := none) (by kernel_rfl) (by kernel_rfl) (by kernel_rfl) (Does.new (o := .cells #[.int .i64 a0.f0, .int .i64 a0.f1] 27 (0, 0)) (v := fun r => .pointer (some ⟨r, 0, none⟩)) (fun r => by kernel_rfl)) ?_
  rintro _ _ _ ⟨b1, rfl, rfl, rfl⟩
  refine WL.restQ 1 [1] (L' := [(1, .pointer (some ⟨b1, 0, none⟩))]) (by kernel_rfl) ?_
  rw [Option.bind_eq_some_iff] at h
  obtain ⟨os2, h, hk3⟩ := h
  refine WP.cut (fun L' G' Γ' => ∃ s2 : Bool, s2 = os2 ∧ L' = [(2, .bool s2)] ∧ G = G' ∧ Γ = Γ') ?_ ?_
  · clear hk3
    refine WP.region ?_
    refine WL.pure 0 1 [1, 3] (L' := [(1, .pointer (some ⟨b1, 0, none⟩)), (3, .pointer (some ⟨b1, 0, none⟩))]) (by kernel_rfl) (by decide) ?_
    refine WL.tell (op := .load 3 (.tmp 3)) (ty := 3) (d := some 4) (g := none) (by kernel_rfl) (by kernel_rfl) (by kernel_rfl) (Tells.load_box (i := 0) (b := b1) (o := 0) (agg := false) (by rfl) ag3 (by kernel_rfl) (fun _ => rfl) (Nat.le_of_ble_eq_true rfl) (v := .int .i64 a0.f0) (by kernel_rfl)) ?_
    refine WL.pure 2 4 [1, 6] (L' := [(1, .pointer (some ⟨b1, 0, none⟩)), (6, .bool (decide (a0.f0 ≥ 0)))]) (by kernel_rfl) (by decide) ?_
    refine WL.split 6 (b := decide (a0.f0 ≥ 0)) (by kernel_rfl) (fun hc => ?_) (fun hc => ?_)
    · replace hc := of_decide_eq_true hc
      rw [if_pos hc] at h
      have hc4 := hc
      clear hc
      refine WL.pure 4 5 [1, 6, 7] (L' := [(1, .pointer (some ⟨b1, 0, none⟩)), (6, .bool true), (7, .pointer (some ⟨b1, 0, none⟩))]) (by kernel_rfl) (by decide) ?_
      refine WL.tell (op := .load 3 (.tmp 7)) (ty := 3) (d := some 8) (g := some (3, true)) (by kernel_rfl) (by kernel_rfl) (by kernel_rfl) (Tells.load_box (i := 0) (b := b1) (o := 0) (agg := false) (by rfl) ag3 (by kernel_rfl) (fun _ => rfl) (Nat.le_of_ble_eq_true rfl) (v := .int .i64 a0.f0) (by kernel_rfl)) ?_
      refine WL.pure 6 9 [1, 11] (L' := [(1, .pointer (some ⟨b1, 0, none⟩)), (11, .bool (decide (a0.f0 < 8)))]) (by kernel_rfl) (by decide) ?_
      refine WL.split 11 (b := decide (a0.f0 < 8)) (by kernel_rfl) (fun hc => ?_) (fun hc => ?_)
      · replace hc := of_decide_eq_true hc
        rw [if_pos hc] at h
        have hc5 := hc
        clear hc
        refine WL.pure 9 10 [1, 11, 12] (L' := [(1, .pointer (some ⟨b1, 0, none⟩)), (11, .bool true), (12, .pointer (some ⟨b1, 1, none⟩))]) (by kernel_rfl) (by decide) ?_
        refine WL.tell (op := .load 3 (.tmp 12)) (ty := 3) (d := some 13) (g := some (8, true)) (by kernel_rfl) (by kernel_rfl) (by kernel_rfl) (Tells.load_box (i := 0) (b := b1) (o := 1) (agg := false) (by rfl) ag3 (by kernel_rfl) (fun _ => rfl) (Nat.le_of_ble_eq_true rfl) (v := .int .i64 a0.f1) (by kernel_rfl)) ?_
        refine WL.pure 11 14 [1, 16] (L' := [(1, .pointer (some ⟨b1, 0, none⟩)), (16, .bool (decide (a0.f1 ≥ 1)))]) (by kernel_rfl) (by decide) ?_
        refine WL.split 16 (b := decide (a0.f1 ≥ 1)) (by kernel_rfl) (fun hc => ?_) (fun hc => ?_)
        · replace hc := of_decide_eq_true hc
          rw [if_pos hc] at h
          have hc6 := hc
          clear hc
          refine WL.pure 14 15 [16, 17] (L' := [(16, .bool true), (17, .pointer (some ⟨b1, 1, none⟩))]) (by kernel_rfl) (by decide) ?_
          refine WL.tell (op := .load 3 (.tmp 17)) (ty := 3) (d := some 18) (g := some (13, true)) (by kernel_rfl) (by kernel_rfl) (by kernel_rfl) (Tells.load_box (i := 0) (b := b1) (o := 1) (agg := false) (by rfl) ag3 (by kernel_rfl) (fun _ => rfl) (Nat.le_of_ble_eq_true rfl) (v := .int .i64 a0.f1) (by kernel_rfl)) ?_
          refine WL.rest 16 [2] (L' := [(2, .bool (decide (a0.f1 ≤ 1023)))]) (by kernel_rfl) ?_
          refine QP.dropAt 0 ?_
          refine QP.pick [2] ?_
          exact QP.meet ⟨_, Option.some.inj h, rfl, rfl, rfl⟩
        · replace hc := of_decide_eq_false hc
          rw [if_neg hc] at h
          have hc6 := hc
          clear hc
          refine WL.rest 14 [2] (L' := [(2, .bool false)]) (by kernel_rfl) ?_
          refine QP.dropAt 0 ?_
          refine QP.pick [2] ?_
          exact QP.meet ⟨_, Option.some.inj h, rfl, rfl, rfl⟩
      · replace hc := of_decide_eq_false hc
        rw [if_neg hc] at h
        have hc5 := hc
        clear hc
        refine WL.rest 9 [2] (L' := [(2, .bool false)]) (by kernel_rfl) ?_
        refine QP.dropAt 0 ?_
        refine QP.pick [2] ?_
        exact QP.meet ⟨_, Option.some.inj h, rfl, rfl, rfl⟩
    · replace hc := of_decide_eq_false hc
      rw [if_neg hc] at h
      have hc4 := hc
      clear hc
      refine WL.rest 4 [2] (L' := [(2, .bool false)]) (by kernel_rfl) ?_
      refine QP.dropAt 0 ?_
      refine QP.pick [2] ?_
      exact QP.meet ⟨_, Option.some.inj h, rfl, rfl, rfl⟩
  · rintro _ _ _ ⟨s2, rfl, rfl, rfl, rfl⟩
    clear h
    replace h := hk3
    refine WP.ret ?_
    obtain rfl := Option.some.inj h
    exact QP.returned [2] [.bool s2] _ (by kernel_rfl) (by kernel_rfl) (by kernel_rfl) (fun W hI => ⟨_, _, _, rfl, ⟨rfl, rfl, rfl⟩, hI⟩)

/-! ### grapevine/grapevineref2.in: function 79 -/
def grapevineref2_in (a0 : Int) (a1 : Int) : Option Bool := ((if a0 ≥ 0 then some (decide (a0 ≤ a1)) else some false).bind fun s1 => some s1)
set_option maxHeartbeats 4000000 in
theorem grapevineref2_in_calls {B : World} {G : GMap} {Γ : List Chunk} {W : World} (a0 : Int) (a1 : Int) (r : Bool) (h : grapevineref2_in a0 a1 = some r) (hI : Inv B G (Γ) W) :
    Calls Tryd.prog 79 [.int .i64 a0, .int .i64 a1].toArray W (Ret B (fun v G' Γ' => v = .bool r ∧ G = G' ∧ Γ = Γ')) := by
  refine calls_WP (Γ := Γ) (G := G) (B := B) Tryd.func79 rfl (by kernel_rfl) ?_ hI
  clear hI
  unfold grapevineref2_in at h
  refine WP.seqP [0, 1] (L' := [(0, .int .i64 a0), (1, .int .i64 a1)]) (by kernel_rfl) ?_
  rw [Option.bind_eq_some_iff] at h
  obtain ⟨os1, h, hk2⟩ := h
  refine WP.cut (fun L' G' Γ' => ∃ s1 : Bool, s1 = os1 ∧ L' = [(4, .bool s1)] ∧ G = G' ∧ Γ = Γ') ?_ ?_
  · clear hk2
    refine WP.region ?_
    refine WL.pure 0 3 [0, 1, 7] (L' := [(0, .int .i64 a0), (1, .int .i64 a1), (7, .bool (decide (a0 ≥ 0)))]) (by kernel_rfl) (by decide) ?_
    refine WL.split 7 (b := decide (a0 ≥ 0)) (by kernel_rfl) (fun hc => ?_) (fun hc => ?_)
    · replace hc := of_decide_eq_true hc
      rw [if_pos hc] at h
      have hc3 := hc
      clear hc
      refine WL.rest 3 [4] (L' := [(4, .bool (decide (a0 ≤ a1)))]) (by kernel_rfl) ?_
      refine QP.pick [4] ?_
      exact QP.meet ⟨_, Option.some.inj h, rfl, rfl, rfl⟩
    · replace hc := of_decide_eq_false hc
      rw [if_neg hc] at h
      have hc3 := hc
      clear hc
      refine WL.rest 3 [4] (L' := [(4, .bool false)]) (by kernel_rfl) ?_
      refine QP.pick [4] ?_
      exact QP.meet ⟨_, Option.some.inj h, rfl, rfl, rfl⟩
  · rintro _ _ _ ⟨s1, rfl, rfl, rfl, rfl⟩
    clear h
    replace h := hk2
    refine WP.ret ?_
    obtain rfl := Option.some.inj h
    exact QP.returned [4] [.bool s1] _ (by kernel_rfl) (by kernel_rfl) (by kernel_rfl) (fun W hI => ⟨_, _, _, rfl, ⟨rfl, rfl, rfl⟩, hI⟩)

/-! ### grapevine/grapevineref2.May: function 55 -/
def grapevineref2_May (a0 : T29) : Option Bool := (((grapevineref2_in a0.f0 1099511627776).bind fun t4 => (if t4 = true then ((grapevineref2_in a0.f1 65535).bind fun t9 => some t9) else some false)).bind fun s2 => some s2)
set_option maxHeartbeats 4000000 in
theorem grapevineref2_May_calls {B : World} {G : GMap} {Γ : List Chunk} {W : World} (a0 : T29) (r : Bool) (h : grapevineref2_May a0 = some r) (hI : Inv B G (Γ) W) :
    Calls Tryd.prog 55 [.agg #[.int .i64 a0.f0, .int .i64 a0.f1]].toArray W (Ret B (fun v G' Γ' => v = .bool r ∧ G = G' ∧ Γ = Γ')) := by
  refine calls_WP (Γ := Γ) (G := G) (B := B) Tryd.func55 rfl (by kernel_rfl) ?_ hI
  clear hI
  unfold grapevineref2_May at h
  refine WP.seqR ?_
  refine WL.op (op := .box 29 (.tmp 0)) (ty := 0) (d := some 1) (g := none) (by kernel_rfl) (by kernel_rfl) (by kernel_rfl) (Does.new (o := .cells #[.int .i64 a0.f0, .int .i64 a0.f1] 29 (0, 0)) (v := fun r => .pointer (some ⟨r, 0, none⟩)) (fun r => by kernel_rfl)) ?_
  rintro _ _ _ ⟨b1, rfl, rfl, rfl⟩
  refine WL.restQ 1 [1] (L' := [(1, .pointer (some ⟨b1, 0, none⟩))]) (by kernel_rfl) ?_
  rw [Option.bind_eq_some_iff] at h
  obtain ⟨os2, h, hk3⟩ := h
  refine WP.cut (fun L' G' Γ' => ∃ s2 : Bool, s2 = os2 ∧ L' = [(2, .bool s2)] ∧ G = G' ∧ Γ = Γ') ?_ ?_
  · clear hk3
    refine WP.region ?_
    refine WL.pure 0 1 [1, 3] (L' := [(1, .pointer (some ⟨b1, 0, none⟩)), (3, .pointer (some ⟨b1, 0, none⟩))]) (by kernel_rfl) (by decide) ?_
    refine WL.tell (op := .load 3 (.tmp 3)) (ty := 3) (d := some 4) (g := none) (by kernel_rfl) (by kernel_rfl) (by kernel_rfl) (Tells.load_box (i := 0) (b := b1) (o := 0) (agg := false) (by rfl) ag3 (by kernel_rfl) (fun _ => rfl) (Nat.le_of_ble_eq_true rfl) (v := .int .i64 a0.f0) (by kernel_rfl)) ?_
    rw [Option.bind_eq_some_iff] at h
    obtain ⟨t4, ht5, h⟩ := h
    refine WL.op (op := .call { callee := (.value (.func 79)), args := #[(.tmp 4), (.const (.int .i64 1099511627776))], argTypes := #[3, 3] }) (ty := 4) (d := some 5) (g := none) (by kernel_rfl) (by kernel_rfl) (by kernel_rfl) (Does.call (f := 79) (args := [.int .i64 a0.f0, .int .i64 1099511627776]) (by kernel_rfl) (fun W hI => (grapevineref2_in_calls a0.f0 1099511627776  t4 ht5 hI))) ?_
    rintro _ _ _ ⟨rfl, rfl, rfl⟩
    refine WL.pure 3 4 [1, 6] (L' := [(1, .pointer (some ⟨b1, 0, none⟩)), (6, .bool t4)]) (by kernel_rfl) (by decide) ?_
    refine WL.split 6 (b := t4) (by kernel_rfl) (fun hc => ?_) (fun hc => ?_)
    · replace hc := hc
      rw [if_pos hc] at h
      have hc8 := hc
      clear hc
      refine WL.pure 4 5 [6, 7] (L' := [(6, .bool true), (7, .pointer (some ⟨b1, 1, none⟩))]) (by kernel_rfl) (by decide) ?_
      refine WL.tell (op := .load 3 (.tmp 7)) (ty := 3) (d := some 8) (g := some (3, true)) (by kernel_rfl) (by kernel_rfl) (by kernel_rfl) (Tells.load_box (i := 0) (b := b1) (o := 1) (agg := false) (by rfl) ag3 (by kernel_rfl) (fun _ => rfl) (Nat.le_of_ble_eq_true rfl) (v := .int .i64 a0.f1) (by kernel_rfl)) ?_
      rw [Option.bind_eq_some_iff] at h
      obtain ⟨t9, ht10, h⟩ := h
      refine WL.op (op := .call { callee := (.value (.func 79)), args := #[(.tmp 8), (.const (.int .i64 65535))], argTypes := #[3, 3] }) (ty := 4) (d := some 9) (g := some (3, true)) (by kernel_rfl) (by kernel_rfl) (by kernel_rfl) (Does.call (f := 79) (args := [.int .i64 a0.f1, .int .i64 65535]) (by kernel_rfl) (fun W hI => (grapevineref2_in_calls a0.f1 65535  t9 ht10 hI))) ?_
      rintro _ _ _ ⟨rfl, rfl, rfl⟩
      refine WL.rest 7 [2] (L' := [(2, .bool t9)]) (by kernel_rfl) ?_
      refine QP.dropAt 0 ?_
      refine QP.pick [2] ?_
      exact QP.meet ⟨_, Option.some.inj h, rfl, rfl, rfl⟩
    · replace hc := (Bool.eq_false_iff.1 hc)
      rw [if_neg hc] at h
      have hc8 := hc
      clear hc
      refine WL.rest 4 [2] (L' := [(2, .bool false)]) (by kernel_rfl) ?_
      refine QP.dropAt 0 ?_
      refine QP.pick [2] ?_
      exact QP.meet ⟨_, Option.some.inj h, rfl, rfl, rfl⟩
  · rintro _ _ _ ⟨s2, rfl, rfl, rfl, rfl⟩
    clear h
    replace h := hk3
    refine WP.ret ?_
    obtain rfl := Option.some.inj h
    exact QP.returned [2] [.bool s2] _ (by kernel_rfl) (by kernel_rfl) (by kernel_rfl) (fun W hI => ⟨_, _, _, rfl, ⟨rfl, rfl, rfl⟩, hI⟩)

/-! ### grapevine/grapevineref1.May: function 56 -/
def grapevineref1_May (a0 : ByteArray) : Option Bool := ((if (a0.size : Int) ≤ 120 then ((utf8_ValidString a0).bind fun t4 => some t4) else some false).bind fun s1 => some s1)
set_option maxHeartbeats 4000000 in
theorem grapevineref1_May_calls {B : World} {G : GMap} {Γ : List Chunk} {W : World} (HT : Tabs B G) (a0 : ByteArray) (r : Bool) (h : grapevineref1_May a0 = some r) (hI : Inv B G (Γ) W) :
    Calls Tryd.prog 56 [.string a0].toArray W (Ret B (fun v G' Γ' => v = .bool r ∧ G = G' ∧ Γ = Γ')) := by
  refine calls_WP (Γ := Γ) (G := G) (B := B) Tryd.func56 rfl (by kernel_rfl) ?_ hI
  clear hI
  unfold grapevineref1_May at h
  refine WP.seqP [0] (L' := [(0, .string a0)]) (by kernel_rfl) ?_
  rw [Option.bind_eq_some_iff] at h
  obtain ⟨os1, h, hk2⟩ := h
  refine WP.cut (fun L' G' Γ' => ∃ s1 : Bool, s1 = os1 ∧ L' = [(2, .bool s1)] ∧ G = G' ∧ Γ = Γ') ?_ ?_
  · clear hk2
    refine WP.region ?_
    refine WL.pure 0 4 [0, 6] (L' := [(0, .string a0), (6, .bool (decide ((a0.size : Int) ≤ 120)))]) (by kernel_rfl) (by decide) ?_
    refine WL.split 6 (b := decide ((a0.size : Int) ≤ 120)) (by kernel_rfl) (fun hc => ?_) (fun hc => ?_)
    · replace hc := of_decide_eq_true hc
      rw [if_pos hc] at h
      have hc3 := hc
      clear hc
      refine WL.pure 4 5 [6, 7] (L' := [(6, .bool true), (7, .string a0)]) (by kernel_rfl) (by decide) ?_
      rw [Option.bind_eq_some_iff] at h
      obtain ⟨t4, ht5, h⟩ := h
      refine WL.op (op := .call { callee := (.value (.func 65)), args := #[(.tmp 7)], argTypes := #[9] }) (ty := 4) (d := some 8) (g := some (3, true)) (by kernel_rfl) (by kernel_rfl) (by kernel_rfl) (Does.call (f := 65) (args := [.string a0]) (by kernel_rfl) (fun W hI => (utf8_ValidString_calls HT a0  t4 ht5 hI))) ?_
      rintro _ _ _ ⟨rfl, rfl, rfl⟩
      refine WL.rest 6 [2] (L' := [(2, .bool t4)]) (by kernel_rfl) ?_
      refine QP.pick [2] ?_
      exact QP.meet ⟨_, Option.some.inj h, rfl, rfl, rfl⟩
    · replace hc := of_decide_eq_false hc
      rw [if_neg hc] at h
      have hc3 := hc
      clear hc
      refine WL.rest 4 [2] (L' := [(2, .bool false)]) (by kernel_rfl) ?_
      refine QP.pick [2] ?_
      exact QP.meet ⟨_, Option.some.inj h, rfl, rfl, rfl⟩
  · rintro _ _ _ ⟨s1, rfl, rfl, rfl, rfl⟩
    clear h
    replace h := hk2
    refine WP.ret ?_
    obtain rfl := Option.some.inj h
    exact QP.returned [2] [.bool s1] _ (by kernel_rfl) (by kernel_rfl) (by kernel_rfl) (fun W hI => ⟨_, _, _, rfl, ⟨rfl, rfl, rfl⟩, hI⟩)

/-! ### grapevine/grapevineref4.May: function 29 -/
def grapevineref4_May (a0 : T31) : Option Bool := (((grapevineref4_MayKey (⟨a0.f0, a0.f1⟩ : T27)).bind fun t4 => (if t4 = true then ((grapevineref2_May (⟨a0.f2, a0.f3⟩ : T29)).bind fun t9 => (if t9 = true then ((grapevineref1_May a0.f4).bind fun t14 => some t14) else some false)) else some false)).bind fun s2 => some s2)
set_option maxHeartbeats 4000000 in
theorem grapevineref4_May_calls {B : World} {G : GMap} {Γ : List Chunk} {W : World} (HT : Tabs B G) (a0 : T31) (r : Bool) (h : grapevineref4_May a0 = some r) (hI : Inv B G (Γ) W) :
    Calls Tryd.prog 29 [.agg #[.int .i64 a0.f0, .int .i64 a0.f1, .int .i64 a0.f2, .int .i64 a0.f3, .string a0.f4]].toArray W (Ret B (fun v G' Γ' => v = .bool r ∧ G = G' ∧ Γ = Γ')) := by
  refine calls_WP (Γ := Γ) (G := G) (B := B) Tryd.func29 rfl (by kernel_rfl) ?_ hI
  clear hI
  unfold grapevineref4_May at h
  refine WP.seqR ?_
  refine WL.op (op := .box 31 (.tmp 0)) (ty := 0) (d := some 1) (g := none) (by kernel_rfl) (by kernel_rfl) (by kernel_rfl) (Does.new (o := .cells #[.int .i64 a0.f0, .int .i64 a0.f1, .int .i64 a0.f2, .int .i64 a0.f3, .string a0.f4] 31 (0, 0)) (v := fun r => .pointer (some ⟨r, 0, none⟩)) (fun r => by kernel_rfl)) ?_
  rintro _ _ _ ⟨b1, rfl, rfl, rfl⟩
  refine WL.restQ 1 [1] (L' := [(1, .pointer (some ⟨b1, 0, none⟩))]) (by kernel_rfl) ?_
  rw [Option.bind_eq_some_iff] at h
  obtain ⟨os2, h, hk3⟩ := h
  refine WP.cut (fun L' G' Γ' => ∃ s2 : Bool, s2 = os2 ∧ L' = [(2, .bool s2)] ∧ G = G' ∧ Γ = Γ') ?_ ?_
  · clear hk3
    refine WP.region ?_
    refine WL.pure 0 1 [1, 3] (L' := [(1, .pointer (some ⟨b1, 0, none⟩)), (3, .pointer (some ⟨b1, 0, none⟩))]) (by kernel_rfl) (by decide) ?_
    refine WL.tell (op := .load 27 (.tmp 3)) (ty := 27) (d := some 4) (g := none) (by kernel_rfl) (by kernel_rfl) (by kernel_rfl) (Tells.load_box (i := 0) (b := b1) (o := 0) (agg := true) (by rfl) ag27 (by kernel_rfl) (fun h => by cases h) (Nat.le_of_ble_eq_true rfl) (v := .agg #[.int .i64 a0.f0, .int .i64 a0.f1]) (by kernel_rfl)) ?_
    rw [Option.bind_eq_some_iff] at h
    obtain ⟨t4, ht5, h⟩ := h
    refine WL.op (op := .call { callee := (.value (.func 54)), args := #[(.tmp 4)], argTypes := #[27] }) (ty := 4) (d := some 5) (g := none) (by kernel_rfl) (by kernel_rfl) (by kernel_rfl) (Does.call (f := 54) (args := [.agg #[.int .i64 a0.f0, .int .i64 a0.f1]]) (by kernel_rfl) (fun W hI => (grapevineref4_MayKey_calls (⟨a0.f0, a0.f1⟩ : T27)  t4 ht5 hI))) ?_
    rintro _ _ _ ⟨rfl, rfl, rfl⟩
    refine WL.pure 3 4 [1, 6] (L' := [(1, .pointer (some ⟨b1, 0, none⟩)), (6, .bool t4)]) (by kernel_rfl) (by decide) ?_
    refine WL.split 6 (b := t4) (by kernel_rfl) (fun hc => ?_) (fun hc => ?_)
    · replace hc := hc
      rw [if_pos hc] at h
      have hc8 := hc
      clear hc
      refine WL.pure 4 5 [1, 6, 7] (L' := [(1, .pointer (some ⟨b1, 0, none⟩)), (6, .bool true), (7, .pointer (some ⟨b1, 2, none⟩))]) (by kernel_rfl) (by decide) ?_
      refine WL.tell (op := .load 29 (.tmp 7)) (ty := 29) (d := some 8) (g := some (3, true)) (by kernel_rfl) (by kernel_rfl) (by kernel_rfl) (Tells.load_box (i := 0) (b := b1) (o := 2) (agg := true) (by rfl) ag29 (by kernel_rfl) (fun h => by cases h) (Nat.le_of_ble_eq_true rfl) (v := .agg #[.int .i64 a0.f2, .int .i64 a0.f3]) (by kernel_rfl)) ?_
      rw [Option.bind_eq_some_iff] at h
      obtain ⟨t9, ht10, h⟩ := h
      refine WL.op (op := .call { callee := (.value (.func 55)), args := #[(.tmp 8)], argTypes := #[29] }) (ty := 4) (d := some 9) (g := some (3, true)) (by kernel_rfl) (by kernel_rfl) (by kernel_rfl) (Does.call (f := 55) (args := [.agg #[.int .i64 a0.f2, .int .i64 a0.f3]]) (by kernel_rfl) (fun W hI => (grapevineref2_May_calls (⟨a0.f2, a0.f3⟩ : T29)  t9 ht10 hI))) ?_
      rintro _ _ _ ⟨rfl, rfl, rfl⟩
      refine WL.pure 7 9 [1, 11] (L' := [(1, .pointer (some ⟨b1, 0, none⟩)), (11, .bool t9)]) (by kernel_rfl) (by decide) ?_
      refine WL.split 11 (b := t9) (by kernel_rfl) (fun hc => ?_) (fun hc => ?_)
      · replace hc := hc
        rw [if_pos hc] at h
        have hc13 := hc
        clear hc
        refine WL.pure 9 10 [11, 12] (L' := [(11, .bool true), (12, .pointer (some ⟨b1, 4, none⟩))]) (by kernel_rfl) (by decide) ?_
        refine WL.tell (op := .load 9 (.tmp 12)) (ty := 9) (d := some 13) (g := some (8, true)) (by kernel_rfl) (by kernel_rfl) (by kernel_rfl) (Tells.load_box (i := 0) (b := b1) (o := 4) (agg := false) (by rfl) ag9 (by kernel_rfl) (fun _ => rfl) (Nat.le_of_ble_eq_true rfl) (v := .string a0.f4) (by kernel_rfl)) ?_
        rw [Option.bind_eq_some_iff] at h
        obtain ⟨t14, ht15, h⟩ := h
        refine WL.op (op := .call { callee := (.value (.func 56)), args := #[(.tmp 13)], argTypes := #[9] }) (ty := 4) (d := some 14) (g := some (8, true)) (by kernel_rfl) (by kernel_rfl) (by kernel_rfl) (Does.call (f := 56) (args := [.string a0.f4]) (by kernel_rfl) (fun W hI => (grapevineref1_May_calls HT a0.f4  t14 ht15 hI))) ?_
        rintro _ _ _ ⟨rfl, rfl, rfl⟩
        refine WL.rest 12 [2] (L' := [(2, .bool t14)]) (by kernel_rfl) ?_
        refine QP.dropAt 0 ?_
        refine QP.pick [2] ?_
        exact QP.meet ⟨_, Option.some.inj h, rfl, rfl, rfl⟩
      · replace hc := (Bool.eq_false_iff.1 hc)
        rw [if_neg hc] at h
        have hc13 := hc
        clear hc
        refine WL.rest 9 [2] (L' := [(2, .bool false)]) (by kernel_rfl) ?_
        refine QP.dropAt 0 ?_
        refine QP.pick [2] ?_
        exact QP.meet ⟨_, Option.some.inj h, rfl, rfl, rfl⟩
    · replace hc := (Bool.eq_false_iff.1 hc)
      rw [if_neg hc] at h
      have hc8 := hc
      clear hc
      refine WL.rest 4 [2] (L' := [(2, .bool false)]) (by kernel_rfl) ?_
      refine QP.dropAt 0 ?_
      refine QP.pick [2] ?_
      exact QP.meet ⟨_, Option.some.inj h, rfl, rfl, rfl⟩
  · rintro _ _ _ ⟨s2, rfl, rfl, rfl, rfl⟩
    clear h
    replace h := hk3
    refine WP.ret ?_
    obtain rfl := Option.some.inj h
    exact QP.returned [2] [.bool s2] _ (by kernel_rfl) (by kernel_rfl) (by kernel_rfl) (fun W hI => ⟨_, _, _, rfl, ⟨rfl, rfl, rfl⟩, hI⟩)

/-! ### grapevine/grapevineref1.Of: function 31 -/
def grapevineref1_Of_l0 (t6 : List Int) : Nat → (List T45) → Int → Int → Option (List T45)
  | 0, _, _, _ => none
  | k + 1, y22, y23, y24 => (if y24 < ((t6 ++ ([32] : List Int)).length : Int) then (if 0 ≤ y24 ∧ y24 < ((t6 ++ ([32] : List Int)).length : Int) then ((grapevineref1_letter ((t6 ++ ([32] : List Int)).getD y24.toNat 0)).bind fun t29 => (if t29 = true then grapevineref1_Of_l0 t6 k y22 y23 (IntKind.i64.wrap (y24 + 1)) else (if y24 > y23 then (if 0 ≤ y23 ∧ y23 ≤ y24 ∧ y24 ≤ ((t6 ++ ([32] : List Int)).length : Int) then ((grapevineref1_Norm k (runesBytes (((t6 ++ ([32] : List Int)).take y24.toNat).drop y23.toNat))).bind fun t37 => (if y22.length + ([(⟨t37, (y22.length : Int)⟩ : T45)] : List T45).length ≤ 1073741824 then grapevineref1_Of_l0 t6 k (y22 ++ ([(⟨t37, (y22.length : Int)⟩ : T45)] : List T45)) (IntKind.i64.wrap (y24 + 1)) (IntKind.i64.wrap (y24 + 1)) else none)) else none) else grapevineref1_Of_l0 t6 k y22 (IntKind.i64.wrap (y24 + 1)) (IntKind.i64.wrap (y24 + 1))))) else none) else some y22)
def grapevineref1_Of (k : Nat) (a0 : ByteArray) : Option (List T45) := ((grapevineref1_May a0).bind fun t1 => (if (!t1) = true then some ([] : List T45) else ((grapevineref1_runes a0).bind fun t6 => (if t6.length + ([32] : List Int).length ≤ 1073741824 then ((grapevineref1_Of_l0 t6 k ([] : List T45) 0 0).bind fun s15 => some s15) else none))))
set_option maxHeartbeats 4000000 in
theorem grapevineref1_Of_calls {B : World} {G : GMap} {Γ : List Chunk} {W : World} (HT : Tabs B G) (k : Nat) (a0 : ByteArray) (r : List T45) (h : grapevineref1_Of k a0 = some r) (hI : Inv B G (Γ) W) :
    Calls Tryd.prog 31 [.string a0].toArray W (Ret B (fun v G' Γ' => ∃ (AR : Option Addr), ∃ (cR : Nat), ∃ (CR : Chunk), v = .slice AR r.length cR ∧ Ow k45 G' AR cR r CR ∧ G = G' ∧ CR :: Γ = Γ')) := by
  refine calls_WP (Γ := Γ) (G := G) (B := B) Tryd.func31 rfl (by kernel_rfl) ?_ hI
  clear hI
  unfold grapevineref1_Of at h
  refine WP.seqP [0] (L' := [(0, .string a0)]) (by kernel_rfl) ?_
  refine WP.seqP [0, 3] (L' := [(0, .string a0), (3, .slice none 0 0)]) (by kernel_rfl) ?_
  refine WP.seq ?_
  refine WP.seqR ?_
  refine WL.pure 0 1 [0, 3, 7] (L' := [(0, .string a0), (3, .slice none 0 0), (7, .string a0)]) (by kernel_rfl) (by decide) ?_
  rw [Option.bind_eq_some_iff] at h
  obtain ⟨t1, ht2, h⟩ := h
  refine WL.op (op := .call { callee := (.value (.func 56)), args := #[(.tmp 7)], argTypes := #[9] }) (ty := 4) (d := some 8) (g := none) (by kernel_rfl) (by kernel_rfl) (by kernel_rfl) (Does.call (f := 56) (args := [.string a0]) (by kernel_rfl) (fun W hI => (grapevineref1_May_calls HT a0  t1 ht2 hI))) ?_
  rintro _ _ _ ⟨rfl, rfl, rfl⟩
  refine WL.restQ 2 [0, 3, 9] (L' := [(0, .string a0), (3, .slice none 0 0), (9, .bool (!t1))]) (by kernel_rfl) ?_
  refine WP.cond (b := (!t1)) (by kernel_rfl) (fun hc => ?_) (fun hc => ?_)
  · replace hc := hc
    rw [if_pos hc] at h
    have hc5 := hc
    clear hc
    refine WP.seqP [2] (L' := [(2, .slice none 0 0)]) (by kernel_rfl) ?_
    refine WP.ret ?_
    refine QP.thenR ?_
    obtain rfl := Option.some.inj h
    refine QP.addNil ?_
    exact QP.returned [2] [.slice none ([] : List T45).length 0] _ (by kernel_rfl) (by kernel_rfl) (by kernel_rfl) (fun W hI => ⟨_, _, _, rfl, ⟨none, 0, [], rfl, (Ow.nil k45 _), rfl, rfl⟩, hI⟩)
  · replace hc := (Bool.eq_false_iff.1 hc)
    rw [if_neg hc] at h
    have hc5 := hc
    clear hc
    refine WP.skip ?_
    refine QP.next ?_
    refine WP.pick [0, 3] ?_
    refine WP.seqR ?_
    refine WL.pure 0 1 [3, 10] (L' := [(3, .slice none 0 0), (10, .string a0)]) (by kernel_rfl) (by decide) ?_
    rw [Option.bind_eq_some_iff] at h
    obtain ⟨t6, ht7, h⟩ := h
    refine WL.op (op := .call { callee := (.value (.func 57)), args := #[(.tmp 10)], argTypes := #[9] }) (ty := 80) (d := some 11) (g := none) (by kernel_rfl) (by kernel_rfl) (by kernel_rfl) (Does.call (f := 57) (args := [.string a0]) (by kernel_rfl) (fun W hI => (grapevineref1_runes_calls HT a0  t6 ht7 hI))) ?_
    rintro _ _ _ ⟨AR8, cR8, CR8, rfl, HR8, rfl, rfl⟩
    refine WL.op (op := .buildSlice 80 1 #[(0, (.const (.int .i32 32)))]) (ty := 80) (d := some 12) (g := none) (by kernel_rfl) (by kernel_rfl) (by kernel_rfl) (Does.new (o := .cells #[.int .i32 32] 21 (0, 0)) (v := fun r => .slice (some ⟨r, 0, none⟩) 1 1) (fun r => by kernel_rfl)) ?_
    rintro _ _ _ ⟨b10, rfl, rfl, rfl⟩
    have Ho12 : Ow (kInt .i32) G (some ⟨b10, 0, none⟩) 1 ([32] : List Int) [(b10, .cells #[.int .i32 32] 21 (0, 0))] := Ow.lit (kd := (kInt .i32)) (G := G) (b := b10) (T := 21) (xs := ([32] : List Int)) (cs := [.int .i32 32]) (.cons (x := 32) (cs := [.int .i32 32]) (by exact rfl) .nil)
    by_cases hb13 : t6.length + ([32] : List Int).length ≤ 1073741824
    case neg => rw [if_neg hb13] at h; cases h
    rw [if_pos hb13] at h
    refine WL.op (op := .call { callee := (.builtin .append), args := #[(.tmp 11), (.tmp 12)], argTypes := #[80, 80] }) (ty := 80) (d := some 13) (g := none) (by kernel_rfl) (by kernel_rfl) (by kernel_rfl) (Ow.append (ys := ([32] : List Int)) (v := .slice (some ⟨b10, 0, none⟩) ([32] : List Int).length 1) HR8 (i := 1) rfl (by kernel_rfl) (by kernel_rfl) (Ho12.src (i := 0) rfl) sl80 ze21 nt80 (by decide) hb13) ?_
    rintro _ _ _ ⟨rfl, AN14, cN14, CN14, rfl, HN14, rfl⟩
    refine WL.restQ 4 [3, 4] (L' := [(3, .slice none 0 0), (4, .slice AN14 (t6 ++ ([32] : List Int)).length cN14)]) (by kernel_rfl) ?_
    refine WP.dropAt 0 ?_
    refine WP.seqP [3, 4, 5] (L' := [(3, .slice none 0 0), (4, .slice AN14 (t6 ++ ([32] : List Int)).length cN14), (5, .int .i64 0)]) (by kernel_rfl) ?_
    refine WP.seq ?_
    refine WP.seqP [3, 4, 5, 6] (L' := [(3, .slice none 0 0), (4, .slice AN14 (t6 ++ ([32] : List Int)).length cN14), (5, .int .i64 0), (6, .int .i64 0)]) (by kernel_rfl) ?_
    rw [Option.bind_eq_some_iff] at h
    obtain ⟨os15, h, hk16⟩ := h
    refine WP.cutQ (fun L' G' Γ' => ∃ s15 : (List T45), s15 = os15 ∧ ∃ (As15 : Option Addr), ∃ (cs15 : Nat), ∃ (Cs15 : Chunk), L' = [(3, .slice As15 s15.length cs15)] ∧ G = G' ∧ Cs15 :: Γ = Γ' ∧ Ow k45 G As15 cs15 s15 Cs15) ?_ ?_
    · clear hk16
      refine WP.block ?_
      refine WP.freezeN (i := 0) rfl (fun G17 hG18 hle19 nd20 => ?_)
      have Hz21 := HN14.rdN (by rw [← hG18]; exact hle19) nd20
      rw [← hG18] at Hz21
      refine WP.dropAt 0 ?_
      refine WP.addNil ?_
      refine WP.pick [3, 4, 5, 6] ?_
      refine WP.loopF (fun kn25 L' G' Γ' => ∃ (y22 : List T45), ∃ (y23 : Int), ∃ (y24 : Int), grapevineref1_Of_l0 t6 kn25 y22 y23 y24 = some os15 ∧ ∃ (Ay22 : Option Addr), ∃ (cy22 : Nat), ∃ (Cy22 : Chunk), L' = [(3, .slice Ay22 y22.length cy22), (4, .slice AN14 (t6 ++ ([32] : List Int)).length cN14), (5, .int .i64 y23), (6, .int .i64 y24)] ∧ G17 = G' ∧ Cy22 :: Γ = Γ' ∧ Ow k45 G17 Ay22 cy22 y22 Cy22) ?_ k ⟨([] : List T45), 0, 0, h, none, 0, [], rfl, rfl, rfl, (Ow.nil k45 _)⟩
      clear h
      rintro kn26 _ _ _ ⟨y22, y23, y24, h, Ay22, cy22, Cy22, rfl, rfl, rfl, Hy22⟩
      cases kn26 with
      | zero => exact absurd h (by simp [grapevineref1_Of_l0])
      | succ kn26 =>
        simp only [grapevineref1_Of_l0] at h
        refine WP.seq ?_
        refine WP.seqP [3, 4, 5, 6, 17] (L' := [(3, .slice Ay22 y22.length cy22), (4, .slice AN14 (t6 ++ ([32] : List Int)).length cN14), (5, .int .i64 y23), (6, .int .i64 y24), (17, .bool (decide (y24 < ((t6 ++ ([32] : List Int)).length : Int))))]) (by kernel_rfl) ?_
        refine WP.cond (b := decide (y24 < ((t6 ++ ([32] : List Int)).length : Int))) (by kernel_rfl) (fun hc => ?_) (fun hc => ?_)
        · replace hc := of_decide_eq_true hc
          rw [if_pos hc] at h
          have hc27 := hc
          clear hc
          refine WP.skip ?_
          refine QP.next ?_
          refine WP.pick [3, 4, 5, 6] ?_
          refine WP.seq ?_
          refine WP.block ?_
          refine WP.seq ?_
          refine WP.seqR ?_
          refine WL.pure 0 2 [3, 4, 5, 6, 20, 21] (L' := [(3, .slice Ay22 y22.length cy22), (4, .slice AN14 (t6 ++ ([32] : List Int)).length cN14), (5, .int .i64 y23), (6, .int .i64 y24), (20, .slice AN14 (t6 ++ ([32] : List Int)).length cN14), (21, .int .i64 y24)]) (by kernel_rfl) (by decide) ?_
          by_cases hb28 : 0 ≤ y24 ∧ y24 < ((t6 ++ ([32] : List Int)).length : Int)
          case neg => rw [if_neg hb28] at h; cases h
          rw [if_pos hb28] at h
          refine WL.tell (op := .indexAddr 80 (.tmp 20) (.tmp 21)) (ty := 0) (d := some 22) (g := none) (by kernel_rfl) (by kernel_rfl) (by kernel_rfl) (Tells.indexAddr (A := AN14) (n := (t6 ++ ([32] : List Int)).length) (c := cN14) (k := .i64) (j := y24) (by kernel_rfl) (by kernel_rfl) (Hz21.isSome hb28.1 hb28.2) hb28.1 hb28.2 sl80) ?_
          refine WL.tellE (op := .load 21 (.tmp 22)) (ty := 21) (d := some 23) (g := none) (by kernel_rfl) (by kernel_rfl) (by kernel_rfl) (Hz21.load (agg := false) hb28.1 hb28.2 0 ag21 (fun _ => rfl) (by kernel_rfl)) ?_
          rintro _ rfl
          rw [Option.bind_eq_some_iff] at h
          obtain ⟨t29, ht30, h⟩ := h
          refine WL.op (op := .call { callee := (.value (.func 58)), args := #[(.tmp 23)], argTypes := #[21] }) (ty := 4) (d := some 24) (g := none) (by kernel_rfl) (by kernel_rfl) (by kernel_rfl) (Does.call (f := 58) (args := [.int .i32 ((t6 ++ ([32] : List Int)).getD y24.toNat 0)]) (by kernel_rfl) (fun W hI => (grapevineref1_letter_calls (HT.mono hle19) ((t6 ++ ([32] : List Int)).getD y24.toNat 0)  t29 ht30 hI))) ?_
          rintro _ _ _ ⟨rfl, rfl, rfl⟩
          refine WL.restQ 5 [3, 4, 5, 6, 24] (L' := [(3, .slice Ay22 y22.length cy22), (4, .slice AN14 (t6 ++ ([32] : List Int)).length cN14), (5, .int .i64 y23), (6, .int .i64 y24), (24, .bool t29)]) (by kernel_rfl) ?_
          refine WP.cond (b := t29) (by kernel_rfl) (fun hc => ?_) (fun hc => ?_)
          · replace hc := hc
            rw [if_pos hc] at h
            have hc33 := hc
            clear hc
            refine WP.exit ?_
            refine QP.thenE ?_
            refine QP.blockE ?_
            refine QP.next ?_
            refine WP.pick [3, 4, 5, 6] ?_
            refine WP.regionP [3, 4, 5, 6] (L' := [(3, .slice Ay22 y22.length cy22), (4, .slice AN14 (t6 ++ ([32] : List Int)).length cN14), (5, .int .i64 y23), (6, .int .i64 (IntKind.i64.wrap (y24 + 1)))]) (by kernel_rfl) ?_
            refine QP.pick [3, 4, 5, 6] ?_
            exact QP.meet ⟨kn26, Nat.lt_succ_self _, y22, y23, (IntKind.i64.wrap (y24 + 1)), h, Ay22, cy22, Cy22, rfl, rfl, rfl, Hy22⟩
          · replace hc := (Bool.eq_false_iff.1 hc)
            rw [if_neg hc] at h
            have hc33 := hc
            clear hc
            refine WP.skip ?_
            refine QP.next ?_
            refine WP.pick [3, 4, 5, 6] ?_
            refine WP.seq ?_
            refine WP.seqP [3, 4, 5, 6, 27] (L' := [(3, .slice Ay22 y22.length cy22), (4, .slice AN14 (t6 ++ ([32] : List Int)).length cN14), (5, .int .i64 y23), (6, .int .i64 y24), (27, .bool (decide (y24 > y23)))]) (by kernel_rfl) ?_
            refine WP.cond (b := decide (y24 > y23)) (by kernel_rfl) (fun hc => ?_) (fun hc => ?_)
            · replace hc := of_decide_eq_true hc
              rw [if_pos hc] at h
              have hc34 := hc
              clear hc
              refine WP.region ?_
              refine WL.pure 0 4 [3, 4, 6, 28, 29, 30, 31] (L' := [(3, .slice Ay22 y22.length cy22), (4, .slice AN14 (t6 ++ ([32] : List Int)).length cN14), (6, .int .i64 y24), (28, .slice Ay22 y22.length cy22), (29, .slice AN14 (t6 ++ ([32] : List Int)).length cN14), (30, .int .i64 y23), (31, .int .i64 y24)]) (by kernel_rfl) (by decide) ?_
              by_cases hb35 : 0 ≤ y23 ∧ y23 ≤ y24 ∧ y24 ≤ ((t6 ++ ([32] : List Int)).length : Int)
              case neg => rw [if_neg hb35] at h; cases h
              rw [if_pos hb35] at h
              refine WL.tellS (op := .slice 80 (.tmp 29) (some (.tmp 30)) (some (.tmp 31)) none) (ty := 80) (d := some 32) (g := none) (by kernel_rfl) (by kernel_rfl) (by kernel_rfl) (Hz21.slice (l := y23) (h := y24) (by kernel_rfl) ⟨.i64, by kernel_rfl⟩ ⟨.i64, by kernel_rfl⟩ hb35.1 hb35.2.1 hb35.2.2 sl80) ?_
              rintro AP36 cP36 HP36
              refine WL.tell (op := .convert 80 9 (.tmp 32)) (ty := 9) (d := some 33) (g := none) (by kernel_rfl) (by kernel_rfl) (by kernel_rfl) (HP36.runesStr (by kernel_rfl) ru80 st9) ?_
              rw [Option.bind_eq_some_iff] at h
              obtain ⟨t37, ht38, h⟩ := h
              refine WL.op (op := .call { callee := (.value (.func 59)), args := #[(.tmp 33)], argTypes := #[9] }) (ty := 9) (d := some 34) (g := none) (by kernel_rfl) (by kernel_rfl) (by kernel_rfl) (Does.call (f := 59) (args := [.string (runesBytes (((t6 ++ ([32] : List Int)).take y24.toNat).drop y23.toNat))]) (by kernel_rfl) (fun W hI => (grapevineref1_Norm_calls (HT.mono hle19) kn26 (runesBytes (((t6 ++ ([32] : List Int)).take y24.toNat).drop y23.toNat))  t37 ht38 hI))) ?_
              rintro _ _ _ ⟨rfl, rfl, rfl⟩
              refine WL.pure 7 10 [3, 4, 6, 28, 37] (L' := [(3, .slice Ay22 y22.length cy22), (4, .slice AN14 (t6 ++ ([32] : List Int)).length cN14), (6, .int .i64 y24), (28, .slice Ay22 y22.length cy22), (37, .agg #[.string t37, .int .i64 (y22.length : Int)])]) (by kernel_rfl) (by decide) ?_
              refine WL.op (op := .buildSlice 32 1 #[(0, (.tmp 37))]) (ty := 32) (d := some 38) (g := none) (by kernel_rfl) (by kernel_rfl) (by kernel_rfl) (Does.new (o := .cells #[.string t37, .int .i64 (y22.length : Int)] 45 (0, 0)) (v := fun r => .slice (some ⟨r, 0, none⟩) 1 1) (fun r => by kernel_rfl)) ?_
              rintro _ _ _ ⟨b41, rfl, rfl, rfl⟩
              have Ho43 : Ow k45 G17 (some ⟨b41, 0, none⟩) 1 ([(⟨t37, (y22.length : Int)⟩ : T45)] : List T45) [(b41, .cells #[.string t37, .int .i64 (y22.length : Int)] 45 (0, 0))] := Ow.lit (kd := k45) (G := G17) (b := b41) (T := 45) (xs := ([(⟨t37, (y22.length : Int)⟩ : T45)] : List T45)) (cs := [.string t37, .int .i64 (y22.length : Int)]) (.cons (x := (⟨t37, (y22.length : Int)⟩ : T45)) (cs := [.string t37, .int .i64 (y22.length : Int)]) (by exact rfl) .nil)
              by_cases hb44 : y22.length + ([(⟨t37, (y22.length : Int)⟩ : T45)] : List T45).length ≤ 1073741824
              case neg => rw [if_neg hb44] at h; cases h
              rw [if_pos hb44] at h
              refine WL.op (op := .call { callee := (.builtin .append), args := #[(.tmp 28), (.tmp 38)], argTypes := #[32, 32] }) (ty := 32) (d := some 39) (g := none) (by kernel_rfl) (by kernel_rfl) (by kernel_rfl) (Ow.append (ys := ([(⟨t37, (y22.length : Int)⟩ : T45)] : List T45)) (v := .slice (some ⟨b41, 0, none⟩) ([(⟨t37, (y22.length : Int)⟩ : T45)] : List T45).length 1) Hy22 (i := 1) rfl (by kernel_rfl) (by kernel_rfl) (Ho43.src (i := 0) rfl) sl32 ze45 nt32 (by decide) hb44) ?_
              rintro _ _ _ ⟨rfl, AN45, cN45, CN45, rfl, HN45, rfl⟩
              refine WL.rest 12 [3, 4, 6] (L' := [(3, .slice AN45 (y22 ++ ([(⟨t37, (y22.length : Int)⟩ : T45)] : List T45)).length cN45), (4, .slice AN14 (t6 ++ ([32] : List Int)).length cN14), (6, .int .i64 y24)]) (by kernel_rfl) ?_
              refine QP.next ?_
              refine WP.pick [3, 4, 6] ?_
              refine WP.regionP [3, 4, 5, 6] (L' := [(3, .slice AN45 (y22 ++ ([(⟨t37, (y22.length : Int)⟩ : T45)] : List T45)).length cN45), (4, .slice AN14 (t6 ++ ([32] : List Int)).length cN14), (5, .int .i64 (IntKind.i64.wrap (y24 + 1))), (6, .int .i64 y24)]) (by kernel_rfl) ?_
              refine QP.blockN ?_
              refine QP.next ?_
              refine WP.pick [3, 4, 5, 6] ?_
              refine WP.regionP [3, 4, 5, 6] (L' := [(3, .slice AN45 (y22 ++ ([(⟨t37, (y22.length : Int)⟩ : T45)] : List T45)).length cN45), (4, .slice AN14 (t6 ++ ([32] : List Int)).length cN14), (5, .int .i64 (IntKind.i64.wrap (y24 + 1))), (6, .int .i64 (IntKind.i64.wrap (y24 + 1)))]) (by kernel_rfl) ?_
              refine QP.dropAt 0 ?_
              refine QP.pick [3, 4, 5, 6] ?_
              exact QP.meet ⟨kn26, Nat.lt_succ_self _, (y22 ++ ([(⟨t37, (y22.length : Int)⟩ : T45)] : List T45)), (IntKind.i64.wrap (y24 + 1)), (IntKind.i64.wrap (y24 + 1)), h, AN45, cN45, CN45, rfl, rfl, rfl, HN45⟩
            · replace hc := of_decide_eq_false hc
              rw [if_neg hc] at h
              have hc34 := hc
              clear hc
              refine WP.skip ?_
              refine QP.next ?_
              refine WP.pick [3, 4, 6] ?_
              refine WP.regionP [3, 4, 5, 6] (L' := [(3, .slice Ay22 y22.length cy22), (4, .slice AN14 (t6 ++ ([32] : List Int)).length cN14), (5, .int .i64 (IntKind.i64.wrap (y24 + 1))), (6, .int .i64 y24)]) (by kernel_rfl) ?_
              refine QP.blockN ?_
              refine QP.next ?_
              refine WP.pick [3, 4, 5, 6] ?_
              refine WP.regionP [3, 4, 5, 6] (L' := [(3, .slice Ay22 y22.length cy22), (4, .slice AN14 (t6 ++ ([32] : List Int)).length cN14), (5, .int .i64 (IntKind.i64.wrap (y24 + 1))), (6, .int .i64 (IntKind.i64.wrap (y24 + 1)))]) (by kernel_rfl) ?_
              refine QP.pick [3, 4, 5, 6] ?_
              exact QP.meet ⟨kn26, Nat.lt_succ_self _, y22, (IntKind.i64.wrap (y24 + 1)), (IntKind.i64.wrap (y24 + 1)), h, Ay22, cy22, Cy22, rfl, rfl, rfl, Hy22⟩
        · replace hc := of_decide_eq_false hc
          rw [if_neg hc] at h
          have hc27 := hc
          clear hc
          refine WP.exit ?_
          refine QP.thenE ?_
          refine QP.thenE ?_
          refine QP.blockE ?_
          refine QP.lower hle19 ?_
          refine QP.pick [3] ?_
          exact QP.meet ⟨_, Option.some.inj h, Ay22, cy22, Cy22, rfl, rfl, rfl, (Hy22.flat (kFlat_flat _ _ _ _))⟩
    · rintro _ _ _ ⟨s15, rfl, As15, cs15, Cs15, rfl, rfl, rfl, Hs15⟩
      clear h
      replace h := hk16
      refine QP.next ?_
      refine WP.pick [3] ?_
      refine WP.seqP [2] (L' := [(2, .slice As15 s15.length cs15)]) (by kernel_rfl) ?_
      refine WP.ret ?_
      obtain rfl := Option.some.inj h
      exact QP.returned [2] [.slice As15 s15.length cs15] _ (by kernel_rfl) (by kernel_rfl) (by kernel_rfl) (fun W hI => ⟨_, _, _, rfl, ⟨As15, cs15, Cs15, rfl, Hs15, rfl, rfl⟩, hI⟩)

/-! ### grapevine/grapevineref15.Phrase: function 15 -/
def grapevineref15_Phrase_l1 (l0 : List T45) (l1 : List ByteArray) (y3 : Int) : Nat → Bool → Int → Option Bool
  | 0, _, _ => none
  | k + 1, y12, y13 => ((if y13 < (l1.length : Int) then some y12 else some false).bind fun s16 => (if s16 = true then ((if (IntKind.i64.wrap (y3 + y13)) < (l0.length : Int) then (if 0 ≤ (IntKind.i64.wrap (y3 + y13)) ∧ (IntKind.i64.wrap (y3 + y13)) < (l0.length : Int) then (if 0 ≤ y13 ∧ y13 < (l1.length : Int) then (if (((l0.getD (IntKind.i64.wrap (y3 + y13)).toNat z45).f0).toList == (l1.getD y13.toNat (⟨#[]⟩ : ByteArray)).toList) = true then (if 0 ≤ (IntKind.i64.wrap (y3 + y13)) ∧ (IntKind.i64.wrap (y3 + y13)) < (l0.length : Int) then (if 0 ≤ y3 ∧ y3 < (l0.length : Int) then some (((l0.getD (IntKind.i64.wrap (y3 + y13)).toNat z45).f1) == (IntKind.i64.wrap (((l0.getD y3.toNat z45).f1) + y13))) else none) else none) else some false) else none) else none) else some false).bind fun s20 => grapevineref15_Phrase_l1 l0 l1 y3 k s20 (IntKind.i64.wrap (y13 + 1))) else some y12))
def grapevineref15_Phrase_l0 (l0 : List T45) (l1 : List ByteArray) : Nat → Int → Option (Sum Bool Unit)
  | 0, _ => none
  | k + 1, y3 => ((if y3 < (l0.length : Int) then some (decide ((l1.length : Int) > 0)) else some false).bind fun s6 => (if s6 = true then ((grapevineref15_Phrase_l1 l0 l1 y3 k true 0).bind fun s10 => (if s10 = true then some (Sum.inl true) else grapevineref15_Phrase_l0 l0 l1 k (IntKind.i64.wrap (y3 + 1)))) else some (Sum.inr ())))
def grapevineref15_Phrase (k : Nat) (l0 : List T45) (l1 : List ByteArray) : Option Bool := ((grapevineref15_Phrase_l0 l0 l1 k 0).bind fun os1 => match os1 with | Sum.inl r => some r | Sum.inr s1 => some false)
set_option maxHeartbeats 4000000 in
theorem grapevineref15_Phrase_calls {B : World} {G : GMap} {Γ : List Chunk} {W : World} (k : Nat) (l0 : List T45) (l1 : List ByteArray) (Al0 : Option Addr) (cl0 : Nat) (Hl0 : Rd k45 G Al0 cl0 l0) (Al1 : Option Addr) (cl1 : Nat) (Hl1 : Rd kStr G Al1 cl1 l1) (r : Bool) (h : grapevineref15_Phrase k l0 l1 = some r) (hI : Inv B G (Γ) W) :
    Calls Tryd.prog 15 [.slice Al0 l0.length cl0, .slice Al1 l1.length cl1].toArray W (Ret B (fun v G' Γ' => v = .bool r ∧ G = G' ∧ Γ = Γ')) := by
  refine calls_WP (Γ := Γ) (G := G) (B := B) Tryd.func15 rfl (by kernel_rfl) ?_ hI
  clear hI
  unfold grapevineref15_Phrase at h
  refine WP.seqP [0, 1] (L' := [(0, .slice Al0 l0.length cl0), (1, .slice Al1 l1.length cl1)]) (by kernel_rfl) ?_
  refine WP.seq ?_
  refine WP.seqP [0, 1, 5] (L' := [(0, .slice Al0 l0.length cl0), (1, .slice Al1 l1.length cl1), (5, .int .i64 0)]) (by kernel_rfl) ?_
  rw [Option.bind_eq_some_iff] at h
  obtain ⟨os1, h, hk2⟩ := h
  refine WP.cutQ (fun L' G' Γ' => ∃ s1 : Unit, Sum.inr s1 = os1 ∧ L' = [] ∧ G = G' ∧ Γ = Γ') ?_ ?_
  · skip
    refine WP.block ?_
    refine WP.pick [0, 1, 5] ?_
    refine WP.loopF (fun kn4 L' G' Γ' => ∃ (y3 : Int), grapevineref15_Phrase_l0 l0 l1 kn4 y3 = some os1 ∧ L' = [(0, .slice Al0 l0.length cl0), (1, .slice Al1 l1.length cl1), (5, .int .i64 y3)] ∧ G = G' ∧ Γ = Γ') ?_ k ⟨0, h, rfl, rfl, rfl⟩
    clear h
    rintro kn5 _ _ _ ⟨y3, h, rfl, rfl, rfl⟩
    cases kn5 with
    | zero => exact absurd h (by simp [grapevineref15_Phrase_l0])
    | succ kn5 =>
      simp only [grapevineref15_Phrase_l0] at h
      refine WP.seq ?_
      rw [Option.bind_eq_some_iff] at h
      obtain ⟨os6, h, hk7⟩ := h
      refine WP.cut (fun L' G' Γ' => ∃ s6 : Bool, s6 = os6 ∧ L' = [(0, .slice Al0 l0.length cl0), (1, .slice Al1 l1.length cl1), (5, .int .i64 y3), (16, .bool s6)] ∧ G = G' ∧ Γ = Γ') ?_ ?_
      · clear hk7
        refine WP.region ?_
        refine WL.pure 0 5 [0, 1, 5, 12] (L' := [(0, .slice Al0 l0.length cl0), (1, .slice Al1 l1.length cl1), (5, .int .i64 y3), (12, .bool (decide (y3 < (l0.length : Int))))]) (by kernel_rfl) (by decide) ?_
        refine WL.split 12 (b := decide (y3 < (l0.length : Int))) (by kernel_rfl) (fun hc => ?_) (fun hc => ?_)
        · replace hc := of_decide_eq_true hc
          rw [if_pos hc] at h
          have hc8 := hc
          clear hc
          refine WL.rest 5 [0, 1, 5, 16] (L' := [(0, .slice Al0 l0.length cl0), (1, .slice Al1 l1.length cl1), (5, .int .i64 y3), (16, .bool (decide ((l1.length : Int) > 0)))]) (by kernel_rfl) ?_
          refine QP.pick [0, 1, 5, 16] ?_
          exact QP.meet ⟨_, Option.some.inj h, rfl, rfl, rfl⟩
        · replace hc := of_decide_eq_false hc
          rw [if_neg hc] at h
          have hc8 := hc
          clear hc
          refine WL.rest 5 [0, 1, 5, 16] (L' := [(0, .slice Al0 l0.length cl0), (1, .slice Al1 l1.length cl1), (5, .int .i64 y3), (16, .bool false)]) (by kernel_rfl) ?_
          refine QP.pick [0, 1, 5, 16] ?_
          exact QP.meet ⟨_, Option.some.inj h, rfl, rfl, rfl⟩
      · rintro _ _ _ ⟨s6, rfl, rfl, rfl, rfl⟩
        clear h
        replace h := hk7
        refine WP.cond (b := s6) (by kernel_rfl) (fun hc => ?_) (fun hc => ?_)
        · replace hc := hc
          rw [if_pos hc] at h
          have hc9 := hc
          clear hc
          refine WP.skip ?_
          refine QP.next ?_
          refine WP.pick [0, 1, 5] ?_
          refine WP.seq ?_
          refine WP.block ?_
          refine WP.seqP [0, 1, 5, 6] (L' := [(0, .slice Al0 l0.length cl0), (1, .slice Al1 l1.length cl1), (5, .int .i64 y3), (6, .bool true)]) (by kernel_rfl) ?_
          refine WP.seq ?_
          refine WP.seqP [0, 1, 5, 6, 7] (L' := [(0, .slice Al0 l0.length cl0), (1, .slice Al1 l1.length cl1), (5, .int .i64 y3), (6, .bool true), (7, .int .i64 0)]) (by kernel_rfl) ?_
          rw [Option.bind_eq_some_iff] at h
          obtain ⟨os10, h, hk11⟩ := h
          refine WP.cutQ (fun L' G' Γ' => ∃ s10 : Bool, s10 = os10 ∧ L' = [(0, .slice Al0 l0.length cl0), (1, .slice Al1 l1.length cl1), (5, .int .i64 y3), (6, .bool s10)] ∧ G = G' ∧ Γ = Γ') ?_ ?_
          · clear hk11
            refine WP.block ?_
            refine WP.pick [0, 1, 5, 6, 7] ?_
            refine WP.loopF (fun kn14 L' G' Γ' => ∃ (y12 : Bool), ∃ (y13 : Int), grapevineref15_Phrase_l1 l0 l1 y3 kn14 y12 y13 = some os10 ∧ L' = [(0, .slice Al0 l0.length cl0), (1, .slice Al1 l1.length cl1), (5, .int .i64 y3), (6, .bool y12), (7, .int .i64 y13)] ∧ G = G' ∧ Γ = Γ') ?_ kn5 ⟨true, 0, h, rfl, rfl, rfl⟩
            clear h
            rintro kn15 _ _ _ ⟨y12, y13, h, rfl, rfl, rfl⟩
            cases kn15 with
            | zero => exact absurd h (by simp [grapevineref15_Phrase_l1])
            | succ kn15 =>
              simp only [grapevineref15_Phrase_l1] at h
              refine WP.seq ?_
              rw [Option.bind_eq_some_iff] at h
              obtain ⟨os16, h, hk17⟩ := h
              refine WP.cut (fun L' G' Γ' => ∃ s16 : Bool, s16 = os16 ∧ L' = [(0, .slice Al0 l0.length cl0), (1, .slice Al1 l1.length cl1), (5, .int .i64 y3), (6, .bool y12), (7, .int .i64 y13), (25, .bool s16)] ∧ G = G' ∧ Γ = Γ') ?_ ?_
              · clear hk17
                refine WP.region ?_
                refine WL.pure 0 5 [0, 1, 5, 6, 7, 23] (L' := [(0, .slice Al0 l0.length cl0), (1, .slice Al1 l1.length cl1), (5, .int .i64 y3), (6, .bool y12), (7, .int .i64 y13), (23, .bool (decide (y13 < (l1.length : Int))))]) (by kernel_rfl) (by decide) ?_
                refine WL.split 23 (b := decide (y13 < (l1.length : Int))) (by kernel_rfl) (fun hc => ?_) (fun hc => ?_)
                · replace hc := of_decide_eq_true hc
                  rw [if_pos hc] at h
                  have hc18 := hc
                  clear hc
                  refine WL.rest 5 [0, 1, 5, 6, 7, 25] (L' := [(0, .slice Al0 l0.length cl0), (1, .slice Al1 l1.length cl1), (5, .int .i64 y3), (6, .bool y12), (7, .int .i64 y13), (25, .bool y12)]) (by kernel_rfl) ?_
                  refine QP.pick [0, 1, 5, 6, 7, 25] ?_
                  exact QP.meet ⟨_, Option.some.inj h, rfl, rfl, rfl⟩
                · replace hc := of_decide_eq_false hc
                  rw [if_neg hc] at h
                  have hc18 := hc
                  clear hc
                  refine WL.rest 5 [0, 1, 5, 6, 7, 25] (L' := [(0, .slice Al0 l0.length cl0), (1, .slice Al1 l1.length cl1), (5, .int .i64 y3), (6, .bool y12), (7, .int .i64 y13), (25, .bool false)]) (by kernel_rfl) ?_
                  refine QP.pick [0, 1, 5, 6, 7, 25] ?_
                  exact QP.meet ⟨_, Option.some.inj h, rfl, rfl, rfl⟩
              · rintro _ _ _ ⟨s16, rfl, rfl, rfl, rfl⟩
                clear h
                replace h := hk17
                refine WP.cond (b := s16) (by kernel_rfl) (fun hc => ?_) (fun hc => ?_)
                · replace hc := hc
                  rw [if_pos hc] at h
                  have hc19 := hc
                  clear hc
                  refine WP.skip ?_
                  refine QP.next ?_
                  refine WP.pick [0, 1, 5, 7] ?_
                  refine WP.seq ?_
                  refine WP.block ?_
                  rw [Option.bind_eq_some_iff] at h
                  obtain ⟨os20, h, hk21⟩ := h
                  refine WP.cutQ (fun L' G' Γ' => ∃ s20 : Bool, s20 = os20 ∧ L' = [(0, .slice Al0 l0.length cl0), (1, .slice Al1 l1.length cl1), (5, .int .i64 y3), (6, .bool s20), (7, .int .i64 y13)] ∧ G = G' ∧ Γ = Γ') ?_ ?_
                  · clear hk21
                    skip
                    refine WP.any (N := 38) (S := [⟨some 28, [5], []⟩, ⟨some 29, [7], []⟩, ⟨some 30, [28, 29], [0, 1]⟩, ⟨some 31, [0], []⟩, ⟨some 32, [31], [3]⟩, ⟨some 33, [30, 32], [2, 4]⟩, ⟨some 34, [33], [5]⟩, ⟨some 35, [0, 34], [6]⟩, ⟨some 36, [5, 34], [6]⟩, ⟨some 37, [7, 34], [6]⟩, ⟨some 38, [34, 36, 37], [6, 8, 9]⟩, ⟨some 39, [34, 35, 38], [6, 7, 10]⟩, ⟨some 40, [34, 39], [6, 11]⟩, ⟨some 41, [34, 40], [6, 12]⟩, ⟨some 42, [1, 34], [6]⟩, ⟨some 43, [7, 34], [6]⟩, ⟨some 44, [34, 42, 43], [6, 14, 15]⟩, ⟨some 45, [34, 44], [6, 16]⟩, ⟨some 46, [34, 41, 45], [6, 13, 17]⟩, ⟨some 47, [34, 46], [6, 18]⟩, ⟨some 48, [47], [6, 19]⟩, ⟨some 49, [0, 48], [20]⟩, ⟨some 50, [5, 48], [20]⟩, ⟨some 51, [7, 48], [20]⟩, ⟨some 52, [48, 50, 51], [20, 22, 23]⟩, ⟨some 53, [48, 49, 52], [20, 21, 24]⟩, ⟨some 54, [48, 53], [20, 25]⟩, ⟨some 55, [48, 54], [20, 26]⟩, ⟨some 56, [0, 48], [20]⟩, ⟨some 57, [5, 48], [20]⟩, ⟨some 58, [48, 56, 57], [20, 28, 29]⟩, ⟨some 59, [48, 58], [20, 30]⟩, ⟨some 60, [48, 59], [20, 31]⟩, ⟨some 61, [7, 48], [20]⟩, ⟨some 62, [48, 60, 61], [20, 32, 33]⟩, ⟨some 63, [48, 55, 62], [20, 27, 34]⟩, ⟨some 64, [48, 63], [20, 35]⟩, ⟨some 6, [64], [0, 1, 2, 3, 4, 5, 6, 7, 8, 9, 10, 11, 12, 13, 14, 15, 16, 17, 18, 19, 20, 21, 22, 23, 24, 25, 26, 27, 28, 29, 30, 31, 32, 33, 34, 35, 36]⟩]) (kw := 38) (G0 := G) (Γ0 := Γ) mo (by kernel_rfl) (fun hS => ?_)
                    refine WA.pure [0, 1, 2, 3, 4, 5, 6] [0, 1, 5, 7, 34] (m := 31) (b' := 127) (L' := [(0, .slice Al0 l0.length cl0), (1, .slice Al1 l1.length cl1), (5, .int .i64 y3), (7, .int .i64 y13), (34, .bool (decide ((IntKind.i64.wrap (y3 + y13)) < (l0.length : Int))))]) (by kernel_rfl) (NoPanic.then (NoPanic.block (NoPanic.then (NoPanic.then (NoPanic.block (NoPanic.then (NoPanic.then (NoPanic.block (NoPanic.then (NoPanic.then (NoPanic.block (NoPanic.then (NoPanic.then (NoPanic.body)))))))))))))) Under.refl hS (by kernel_rfl) ?_
                    refine WA.split 34 (b := decide ((IntKind.i64.wrap (y3 + y13)) < (l0.length : Int))) (by kernel_rfl) (fun hc => ?_) (fun hc => ?_)
                    · replace hc := of_decide_eq_true hc
                      rw [if_pos hc] at h
                      have hc22 := hc
                      clear hc
                      refine WA.pure [7, 8, 9, 10, 14, 15] [0, 1, 5, 7, 34, 35, 38, 42, 43] (m := 25) (b' := 51199) (L' := [(0, .slice Al0 l0.length cl0), (1, .slice Al1 l1.length cl1), (5, .int .i64 y3), (7, .int .i64 y13), (34, .bool true), (35, .slice Al0 l0.length cl0), (38, .int .i64 (IntKind.i64.wrap (y3 + y13))), (42, .slice Al1 l1.length cl1), (43, .int .i64 y13)]) (by kernel_rfl) (NoPanic.then (NoPanic.block (NoPanic.then (NoPanic.then (NoPanic.block (NoPanic.then (NoPanic.then (NoPanic.block (NoPanic.then (NoPanic.then (NoPanic.block (NoPanic.then (NoPanic.then (NoPanic.body)))))))))))))) Under.refl hS (by kernel_rfl) ?_
                      by_cases hb23 : 0 ≤ (IntKind.i64.wrap (y3 + y13)) ∧ (IntKind.i64.wrap (y3 + y13)) < (l0.length : Int)
                      case neg => rw [if_neg hb23] at h; cases h
                      rw [if_pos hb23] at h
                      refine WA.tellD [] (i := 11) (m := 24) (b' := 53247) (by kernel_rfl) (NoPanic.then (NoPanic.block (NoPanic.then (NoPanic.then (NoPanic.block (NoPanic.then (NoPanic.then (NoPanic.block (NoPanic.then (NoPanic.then (NoPanic.block (NoPanic.then (NoPanic.then (NoPanic.body)))))))))))))) Under.refl hS (by kernel_rfl) (op := .indexAddr 32 (.tmp 35) (.tmp 38)) (ty := 0) (d := some 39) (g := some (6, true)) (by kernel_rfl) (by kernel_rfl) (by kernel_rfl) (Tells.indexAddr (A := Al0) (n := l0.length) (c := cl0) (k := .i64) (j := (IntKind.i64.wrap (y3 + y13))) (by kernel_rfl) (by kernel_rfl) (Hl0.isSome hb23.1 hb23.2) hb23.1 hb23.2 sl32) ?_
                      refine WA.tellD [] (i := 12) (m := 23) (b' := 57343) (by kernel_rfl) (NoPanic.then (NoPanic.block (NoPanic.then (NoPanic.then (NoPanic.block (NoPanic.then (NoPanic.then (NoPanic.block (NoPanic.then (NoPanic.then (NoPanic.block (NoPanic.then (NoPanic.then (NoPanic.body)))))))))))))) Under.refl hS (by kernel_rfl) (op := .fieldAddr 45 (.tmp 39) 0) (ty := 0) (d := some 40) (g := some (6, true)) (by kernel_rfl) (by kernel_rfl) (by kernel_rfl) (Tells.fieldElem (m := (IntKind.i64.wrap (y3 + y13)).toNat * 2) (A := Al0) (by kernel_rfl) (Hl0.isSome hb23.1 hb23.2) fi45_0) ?_
                      refine WA.tellDE [] (i := 13) (m := 22) (b' := 65535) (by kernel_rfl) (NoPanic.then (NoPanic.block (NoPanic.then (NoPanic.then (NoPanic.block (NoPanic.then (NoPanic.then (NoPanic.block (NoPanic.then (NoPanic.then (NoPanic.block (NoPanic.then (NoPanic.then (NoPanic.body)))))))))))))) Under.refl hS (by kernel_rfl) (op := .load 9 (.tmp 40)) (ty := 9) (d := some 41) (g := some (6, true)) (by kernel_rfl) (by kernel_rfl) (by kernel_rfl) (Hl0.loadF (agg := false) (off := 0) hb23.1 hb23.2 z45 ag9 (fun _ => rfl) (by decide) (by kernel_rfl)) ?_
                      rintro _ rfl
                      by_cases hb24 : 0 ≤ y13 ∧ y13 < (l1.length : Int)
                      case neg => rw [if_neg hb24] at h; cases h
                      rw [if_pos hb24] at h
                      refine WA.tellD [] (i := 16) (m := 21) (b' := 131071) (by kernel_rfl) (NoPanic.then (NoPanic.block (NoPanic.then (NoPanic.then (NoPanic.block (NoPanic.then (NoPanic.then (NoPanic.block (NoPanic.then (NoPanic.then (NoPanic.block (NoPanic.then (NoPanic.then (NoPanic.body)))))))))))))) Under.refl hS (by kernel_rfl) (op := .indexAddr 22 (.tmp 42) (.tmp 43)) (ty := 0) (d := some 44) (g := some (6, true)) (by kernel_rfl) (by kernel_rfl) (by kernel_rfl) (Tells.indexAddr (A := Al1) (n := l1.length) (c := cl1) (k := .i64) (j := y13) (by kernel_rfl) (by kernel_rfl) (Hl1.isSome hb24.1 hb24.2) hb24.1 hb24.2 sl22) ?_
                      refine WA.tellDE [] (i := 17) (m := 20) (b' := 262143) (by kernel_rfl) (NoPanic.then (NoPanic.block (NoPanic.then (NoPanic.then (NoPanic.block (NoPanic.then (NoPanic.then (NoPanic.block (NoPanic.then (NoPanic.then (NoPanic.block (NoPanic.then (NoPanic.then (NoPanic.body)))))))))))))) Under.refl hS (by kernel_rfl) (op := .load 9 (.tmp 44)) (ty := 9) (d := some 45) (g := some (6, true)) (by kernel_rfl) (by kernel_rfl) (by kernel_rfl) (Hl1.load (agg := false) hb24.1 hb24.2 (⟨#[]⟩ : ByteArray) ag9 (fun _ => rfl) (by kernel_rfl)) ?_
                      rintro _ rfl
                      refine WA.pure [18, 19, 20] [0, 1, 5, 7, 48] (m := 17) (b' := 2097151) (L' := [(0, .slice Al0 l0.length cl0), (1, .slice Al1 l1.length cl1), (5, .int .i64 y3), (7, .int .i64 y13), (48, .bool (((l0.getD (IntKind.i64.wrap (y3 + y13)).toNat z45).f0).toList == (l1.getD y13.toNat (⟨#[]⟩ : ByteArray)).toList))]) (by kernel_rfl) (NoPanic.then (NoPanic.block (NoPanic.then (NoPanic.then (NoPanic.block (NoPanic.then (NoPanic.then (NoPanic.block (NoPanic.then (NoPanic.then (NoPanic.block (NoPanic.then (NoPanic.then (NoPanic.body)))))))))))))) Under.refl hS (by kernel_rfl) ?_
                      refine WA.split 48 (b := (((l0.getD (IntKind.i64.wrap (y3 + y13)).toNat z45).f0).toList == (l1.getD y13.toNat (⟨#[]⟩ : ByteArray)).toList)) (by kernel_rfl) (fun hc => ?_) (fun hc => ?_)
                      · replace hc := hc
                        rw [if_pos hc] at h
                        have hc25 := hc
                        clear hc
                        refine WA.pure [21, 22, 23, 24, 28, 29, 33] [0, 1, 5, 7, 48, 49, 52, 56, 57, 61] (m := 10) (b' := 9428795391) (L' := [(0, .slice Al0 l0.length cl0), (1, .slice Al1 l1.length cl1), (5, .int .i64 y3), (7, .int .i64 y13), (48, .bool true), (49, .slice Al0 l0.length cl0), (52, .int .i64 (IntKind.i64.wrap (y3 + y13))), (56, .slice Al0 l0.length cl0), (57, .int .i64 y3), (61, .int .i64 y13)]) (by kernel_rfl) (NoPanic.then (NoPanic.block (NoPanic.then (NoPanic.then (NoPanic.block (NoPanic.then (NoPanic.then (NoPanic.block (NoPanic.then (NoPanic.then (NoPanic.block (NoPanic.then (NoPanic.then (NoPanic.body)))))))))))))) Under.refl hS (by kernel_rfl) ?_
                        by_cases hb26 : 0 ≤ (IntKind.i64.wrap (y3 + y13)) ∧ (IntKind.i64.wrap (y3 + y13)) < (l0.length : Int)
                        case neg => rw [if_neg hb26] at h; cases h
                        rw [if_pos hb26] at h
                        refine WA.tellD [] (i := 25) (m := 9) (b' := 9462349823) (by kernel_rfl) (NoPanic.then (NoPanic.block (NoPanic.then (NoPanic.then (NoPanic.block (NoPanic.then (NoPanic.then (NoPanic.block (NoPanic.then (NoPanic.then (NoPanic.block (NoPanic.then (NoPanic.then (NoPanic.body)))))))))))))) Under.refl hS (by kernel_rfl) (op := .indexAddr 32 (.tmp 49) (.tmp 52)) (ty := 0) (d := some 53) (g := some (20, true)) (by kernel_rfl) (by kernel_rfl) (by kernel_rfl) (Tells.indexAddr (A := Al0) (n := l0.length) (c := cl0) (k := .i64) (j := (IntKind.i64.wrap (y3 + y13))) (by kernel_rfl) (by kernel_rfl) (Hl0.isSome hb26.1 hb26.2) hb26.1 hb26.2 sl32) ?_
                        refine WA.tellD [] (i := 26) (m := 8) (b' := 9529458687) (by kernel_rfl) (NoPanic.then (NoPanic.block (NoPanic.then (NoPanic.then (NoPanic.block (NoPanic.then (NoPanic.then (NoPanic.block (NoPanic.then (NoPanic.then (NoPanic.block (NoPanic.then (NoPanic.then (NoPanic.body)))))))))))))) Under.refl hS (by kernel_rfl) (op := .fieldAddr 45 (.tmp 53) 1) (ty := 0) (d := some 54) (g := some (20, true)) (by kernel_rfl) (by kernel_rfl) (by kernel_rfl) (Tells.fieldElem (m := (IntKind.i64.wrap (y3 + y13)).toNat * 2) (A := Al0) (by kernel_rfl) (Hl0.isSome hb26.1 hb26.2) fi45_1) ?_
                        refine WA.tellDE [] (i := 27) (m := 7) (b' := 9663676415) (by kernel_rfl) (NoPanic.then (NoPanic.block (NoPanic.then (NoPanic.then (NoPanic.block (NoPanic.then (NoPanic.then (NoPanic.block (NoPanic.then (NoPanic.then (NoPanic.block (NoPanic.then (NoPanic.then (NoPanic.body)))))))))))))) Under.refl hS (by kernel_rfl) (op := .load 3 (.tmp 54)) (ty := 3) (d := some 55) (g := some (20, true)) (by kernel_rfl) (by kernel_rfl) (by kernel_rfl) (Hl0.loadF (agg := false) (off := 1) hb26.1 hb26.2 z45 ag3 (fun _ => rfl) (by decide) (by kernel_rfl)) ?_
                        rintro _ rfl
                        by_cases hb27 : 0 ≤ y3 ∧ y3 < (l0.length : Int)
                        case neg => rw [if_neg hb27] at h; cases h
                        rw [if_pos hb27] at h
                        refine WA.tellD [] (i := 30) (m := 6) (b' := 10737418239) (by kernel_rfl) (NoPanic.then (NoPanic.block (NoPanic.then (NoPanic.then (NoPanic.block (NoPanic.then (NoPanic.then (NoPanic.block (NoPanic.then (NoPanic.then (NoPanic.block (NoPanic.then (NoPanic.then (NoPanic.body)))))))))))))) Under.refl hS (by kernel_rfl) (op := .indexAddr 32 (.tmp 56) (.tmp 57)) (ty := 0) (d := some 58) (g := some (20, true)) (by kernel_rfl) (by kernel_rfl) (by kernel_rfl) (Tells.indexAddr (A := Al0) (n := l0.length) (c := cl0) (k := .i64) (j := y3) (by kernel_rfl) (by kernel_rfl) (Hl0.isSome hb27.1 hb27.2) hb27.1 hb27.2 sl32) ?_
                        refine WA.tellD [] (i := 31) (m := 5) (b' := 12884901887) (by kernel_rfl) (NoPanic.then (NoPanic.block (NoPanic.then (NoPanic.then (NoPanic.block (NoPanic.then (NoPanic.then (NoPanic.block (NoPanic.then (NoPanic.then (NoPanic.block (NoPanic.then (NoPanic.then (NoPanic.body)))))))))))))) Under.refl hS (by kernel_rfl) (op := .fieldAddr 45 (.tmp 58) 1) (ty := 0) (d := some 59) (g := some (20, true)) (by kernel_rfl) (by kernel_rfl) (by kernel_rfl) (Tells.fieldElem (m := y3.toNat * 2) (A := Al0) (by kernel_rfl) (Hl0.isSome hb27.1 hb27.2) fi45_1) ?_
                        refine WA.tellDE [] (i := 32) (m := 4) (b' := 17179869183) (by kernel_rfl) (NoPanic.then (NoPanic.block (NoPanic.then (NoPanic.then (NoPanic.block (NoPanic.then (NoPanic.then (NoPanic.block (NoPanic.then (NoPanic.then (NoPanic.block (NoPanic.then (NoPanic.then (NoPanic.body)))))))))))))) Under.refl hS (by kernel_rfl) (op := .load 3 (.tmp 59)) (ty := 3) (d := some 60) (g := some (20, true)) (by kernel_rfl) (by kernel_rfl) (by kernel_rfl) (Hl0.loadF (agg := false) (off := 1) hb27.1 hb27.2 z45 ag3 (fun _ => rfl) (by decide) (by kernel_rfl)) ?_
                        rintro _ rfl
                        refine WA.pure [34, 35, 36, 37] [0, 1, 5, 6, 7] (m := 0) (b' := 274877906943) (L' := [(0, .slice Al0 l0.length cl0), (1, .slice Al1 l1.length cl1), (5, .int .i64 y3), (6, .bool (((l0.getD (IntKind.i64.wrap (y3 + y13)).toNat z45).f1) == (IntKind.i64.wrap (((l0.getD y3.toNat z45).f1) + y13)))), (7, .int .i64 y13)]) (by kernel_rfl) (NoPanic.then (NoPanic.block (NoPanic.then (NoPanic.then (NoPanic.block (NoPanic.then (NoPanic.then (NoPanic.block (NoPanic.then (NoPanic.then (NoPanic.block (NoPanic.then (NoPanic.then (NoPanic.body)))))))))))))) Under.refl hS (by kernel_rfl) ?_
                        refine WA.done hS (by kernel_rfl) ?_
                        refine QP.pick [0, 1, 5, 6, 7] ?_
                        refine QP.pick [0, 1, 5, 6, 7] ?_
                        exact QP.meet ⟨_, Option.some.inj h, rfl, rfl, rfl⟩
                      · replace hc := (Bool.eq_false_iff.1 hc)
                        rw [if_neg hc] at h
                        have hc25 := hc
                        clear hc
                        refine WA.pure [21, 22, 23, 24, 25, 26, 27, 28, 29, 30, 31, 32, 33, 34, 35, 36, 37] [0, 1, 5, 6, 7] (m := 0) (b' := 274877906943) (L' := [(0, .slice Al0 l0.length cl0), (1, .slice Al1 l1.length cl1), (5, .int .i64 y3), (6, .bool false), (7, .int .i64 y13)]) (by kernel_rfl) (NoPanic.then (NoPanic.block (NoPanic.then (NoPanic.then (NoPanic.block (NoPanic.then (NoPanic.then (NoPanic.block (NoPanic.then (NoPanic.then (NoPanic.block (NoPanic.then (NoPanic.then (NoPanic.body)))))))))))))) Under.refl hS (by kernel_rfl) ?_
                        refine WA.done hS (by kernel_rfl) ?_
                        refine QP.pick [0, 1, 5, 6, 7] ?_
                        refine QP.pick [0, 1, 5, 6, 7] ?_
                        exact QP.meet ⟨_, Option.some.inj h, rfl, rfl, rfl⟩
                    · replace hc := of_decide_eq_false hc
                      rw [if_neg hc] at h
                      have hc22 := hc
                      clear hc
                      refine WA.pure [7, 8, 9, 10, 11, 12, 13, 14, 15, 16, 17, 18, 19, 20, 21, 22, 23, 24, 25, 26, 27, 28, 29, 30, 31, 32, 33, 34, 35, 36, 37] [0, 1, 5, 6, 7] (m := 0) (b' := 274877906943) (L' := [(0, .slice Al0 l0.length cl0), (1, .slice Al1 l1.length cl1), (5, .int .i64 y3), (6, .bool false), (7, .int .i64 y13)]) (by kernel_rfl) (NoPanic.then (NoPanic.block (NoPanic.then (NoPanic.then (NoPanic.block (NoPanic.then (NoPanic.then (NoPanic.block (NoPanic.then (NoPanic.then (NoPanic.block (NoPanic.then (NoPanic.then (NoPanic.body)))))))))))))) Under.refl hS (by kernel_rfl) ?_
                      refine WA.done hS (by kernel_rfl) ?_
                      refine QP.pick [0, 1, 5, 6, 7] ?_
                      refine QP.pick [0, 1, 5, 6, 7] ?_
                      exact QP.meet ⟨_, Option.some.inj h, rfl, rfl, rfl⟩
                  · rintro _ _ _ ⟨s20, rfl, rfl, rfl, rfl⟩
                    clear h
                    replace h := hk21
                    refine QP.blockN ?_
                    refine QP.next ?_
                    refine WP.pick [0, 1, 5, 6, 7] ?_
                    refine WP.regionP [0, 1, 5, 6, 7] (L' := [(0, .slice Al0 l0.length cl0), (1, .slice Al1 l1.length cl1), (5, .int .i64 y3), (6, .bool s20), (7, .int .i64 (IntKind.i64.wrap (y13 + 1)))]) (by kernel_rfl) ?_
                    refine QP.pick [0, 1, 5, 6, 7] ?_
                    exact QP.meet ⟨kn15, Nat.lt_succ_self _, s20, (IntKind.i64.wrap (y13 + 1)), h, rfl, rfl, rfl⟩
                · replace hc := (Bool.eq_false_iff.1 hc)
                  rw [if_neg hc] at h
                  have hc19 := hc
                  clear hc
                  refine WP.exit ?_
                  refine QP.thenE ?_
                  refine QP.thenE ?_
                  refine QP.blockE ?_
                  refine QP.pick [0, 1, 5, 6] ?_
                  exact QP.meet ⟨_, Option.some.inj h, rfl, rfl, rfl⟩
          · rintro _ _ _ ⟨s10, rfl, rfl, rfl, rfl⟩
            clear h
            replace h := hk11
            refine QP.next ?_
            refine WP.pick [0, 1, 5, 6] ?_
            refine WP.seqP [0, 1, 5, 65] (L' := [(0, .slice Al0 l0.length cl0), (1, .slice Al1 l1.length cl1), (5, .int .i64 y3), (65, .bool s10)]) (by kernel_rfl) ?_
            refine WP.cond (b := s10) (by kernel_rfl) (fun hc => ?_) (fun hc => ?_)
            · replace hc := hc
              rw [if_pos hc] at h
              have hc28 := hc
              clear hc
              refine WP.seqP [4] (L' := [(4, .bool true)]) (by kernel_rfl) ?_
              refine WP.ret ?_
              refine QP.blockR ?_
              refine QP.thenR ?_
              refine QP.thenR ?_
              refine QP.blockR ?_
              refine QP.thenR ?_
              refine QP.thenR ?_
              obtain rfl := Option.some.inj h
              obtain rfl := Option.some.inj (show some _ = some _ from hk2)
              exact QP.returned [4] [.bool true] _ (by kernel_rfl) (by kernel_rfl) (by kernel_rfl) (fun W hI => ⟨_, _, _, rfl, ⟨rfl, rfl, rfl⟩, hI⟩)
            · replace hc := (Bool.eq_false_iff.1 hc)
              rw [if_neg hc] at h
              have hc28 := hc
              clear hc
              refine WP.skip ?_
              refine QP.blockN ?_
              refine QP.next ?_
              refine WP.pick [0, 1, 5] ?_
              refine WP.regionP [0, 1, 5] (L' := [(0, .slice Al0 l0.length cl0), (1, .slice Al1 l1.length cl1), (5, .int .i64 (IntKind.i64.wrap (y3 + 1)))]) (by kernel_rfl) ?_
              refine QP.pick [0, 1, 5] ?_
              exact QP.meet ⟨kn5, Nat.lt_succ_self _, (IntKind.i64.wrap (y3 + 1)), h, rfl, rfl, rfl⟩
        · replace hc := (Bool.eq_false_iff.1 hc)
          rw [if_neg hc] at h
          have hc9 := hc
          clear hc
          refine WP.exit ?_
          refine QP.thenE ?_
          refine QP.thenE ?_
          refine QP.blockE ?_
          refine QP.pick [] ?_
          exact QP.meet ⟨_, Option.some.inj h, rfl, rfl, rfl⟩
  · rintro _ _ _ ⟨s1, rfl, rfl, rfl, rfl⟩
    clear h
    replace h := hk2
    dsimp only at h
    refine QP.next ?_
    refine WP.pick [] ?_
    refine WP.seqP [4] (L' := [(4, .bool false)]) (by kernel_rfl) ?_
    refine WP.ret ?_
    obtain rfl := Option.some.inj h
    exact QP.returned [4] [.bool false] _ (by kernel_rfl) (by kernel_rfl) (by kernel_rfl) (fun W hI => ⟨_, _, _, rfl, ⟨rfl, rfl, rfl⟩, hI⟩)

/-! ### grapevine/grapevineref15.holds: function 30 -/
def grapevineref15_holds_l0 (a0 : T25) (l2 : List T45) : Nat → Int → Option (Sum Bool Unit)
  | 0, _ => none
  | k + 1, y12 => (if y12 < (l2.length : Int) then (if 0 ≤ (0 : Int) ∧ (0 : Int) < (a0.f2.length : Int) then ((some ((a0.f2.getD (0 : Int).toNat (⟨#[]⟩ : ByteArray)).size : Int)).bind fun v17 => ((if 0 ≤ y12 ∧ y12 < (l2.length : Int) then (if (((l2.getD y12.toNat z45).f0).size : Int) ≥ v17 then (if 0 ≤ y12 ∧ y12 < (l2.length : Int) then (if 0 ≤ (0 : Int) ∧ (0 : Int) ≤ v17 ∧ v17 ≤ (((l2.getD y12.toNat z45).f0).size : Int) then (if 0 ≤ (0 : Int) ∧ (0 : Int) < (a0.f2.length : Int) then some ((((l2.getD y12.toNat z45).f0).extract (0 : Int).toNat v17.toNat).toList == (a0.f2.getD (0 : Int).toNat (⟨#[]⟩ : ByteArray)).toList) else none) else none) else none) else some false) else none).bind fun s19 => (if s19 = true then some (Sum.inl true) else grapevineref15_holds_l0 a0 l2 k (IntKind.i64.wrap (y12 + 1))))) else none) else some (Sum.inr ()))
def grapevineref15_holds_l1 (a0 : T25) (a1 : T31) (l2 : List T45) (rec_ : T25 → T31 → (List T45) → Option Bool) : Nat → Int → Option (Sum Bool Unit)
  | 0, _ => none
  | k + 1, y40 => (if y40 < (a0.f3.length : Int) then (if 0 ≤ y40 ∧ y40 < (a0.f3.length : Int) then ((rec_ (a0.f3.getD y40.toNat z25) a1 l2).bind fun t47 => (if (!(t47 == (a0.f0 == 7))) = true then some (Sum.inl (a0.f0 == 8)) else grapevineref15_holds_l1 a0 a1 l2 rec_ k (IntKind.i64.wrap (y40 + 1)))) else none) else some (Sum.inr ()))
def grapevineref15_holds_l2 (a0 : T25) (l2 : List T45) : Nat → Int → Option (Sum Bool Unit)
  | 0, _ => none
  | k + 1, y60 => (if y60 < (l2.length : Int) then (if 0 ≤ (0 : Int) ∧ (0 : Int) < (a0.f2.length : Int) then ((some ((a0.f2.getD (0 : Int).toNat (⟨#[]⟩ : ByteArray)).size : Int)).bind fun v65 => ((if 0 ≤ y60 ∧ y60 < (l2.length : Int) then (if (((l2.getD y60.toNat z45).f0).size : Int) ≥ v65 then (if 0 ≤ y60 ∧ y60 < (l2.length : Int) then (if 0 ≤ (0 : Int) ∧ (0 : Int) ≤ v65 ∧ v65 ≤ (((l2.getD y60.toNat z45).f0).size : Int) then (if 0 ≤ (0 : Int) ∧ (0 : Int) < (a0.f2.length : Int) then some ((((l2.getD y60.toNat z45).f0).extract (0 : Int).toNat v65.toNat).toList == (a0.f2.getD (0 : Int).toNat (⟨#[]⟩ : ByteArray)).toList) else none) else none) else none) else some false) else none).bind fun s67 => (if s67 = true then some (Sum.inl true) else grapevineref15_holds_l2 a0 l2 k (IntKind.i64.wrap (y60 + 1))))) else none) else some (Sum.inr ()))
def grapevineref15_holds_l3 (a0 : T25) (a1 : T31) (l2 : List T45) (rec_ : T25 → T31 → (List T45) → Option Bool) : Nat → Int → Option (Sum Bool Unit)
  | 0, _ => none
  | k + 1, y88 => (if y88 < (a0.f3.length : Int) then (if 0 ≤ y88 ∧ y88 < (a0.f3.length : Int) then ((rec_ (a0.f3.getD y88.toNat z25) a1 l2).bind fun t95 => (if (!(t95 == (a0.f0 == 7))) = true then some (Sum.inl (a0.f0 == 8)) else grapevineref15_holds_l3 a0 a1 l2 rec_ k (IntKind.i64.wrap (y88 + 1)))) else none) else some (Sum.inr ()))
def grapevineref15_holds : Nat → T25 → T31 → (List T45) → Option Bool
  | 0, _, _, _ => none
  | k + 1, a0, a1, l2 => (if a0.f0 = 1 then (if a0.f0 = 1 then ((grapevineref15_Phrase k l2 a0.f2).bind fun t5 => some t5) else (if a0.f0 = 2 then ((grapevineref15_holds_l0 a0 l2 k 0).bind fun os10 => match os10 with | Sum.inl r => some r | Sum.inr s10 => some false) else (if a0.f0 = 4 then some (a1.f0 == a0.f1) else (if a0.f0 = 5 then some (decide (a1.f2 ≥ a0.f1)) else (if a0.f0 = 6 then some (decide (a1.f2 ≤ a0.f1)) else (if a0.f0 = 9 then (if 0 ≤ (0 : Int) ∧ (0 : Int) < (a0.f3.length : Int) then (((grapevineref15_holds k) (a0.f3.getD (0 : Int).toNat z25) a1 l2).bind fun t34 => some (!t34)) else none) else ((grapevineref15_holds_l1 a0 a1 l2 (grapevineref15_holds k) k 0).bind fun os38 => match os38 with | Sum.inl r => some r | Sum.inr s38 => some (a0.f0 == 7)))))))) else (if a0.f0 = 3 then ((grapevineref15_Phrase k l2 a0.f2).bind fun t53 => some t53) else (if a0.f0 = 2 then ((grapevineref15_holds_l2 a0 l2 k 0).bind fun os58 => match os58 with | Sum.inl r => some r | Sum.inr s58 => some false) else (if a0.f0 = 4 then some (a1.f0 == a0.f1) else (if a0.f0 = 5 then some (decide (a1.f2 ≥ a0.f1)) else (if a0.f0 = 6 then some (decide (a1.f2 ≤ a0.f1)) else (if a0.f0 = 9 then (if 0 ≤ (0 : Int) ∧ (0 : Int) < (a0.f3.length : Int) then (((grapevineref15_holds k) (a0.f3.getD (0 : Int).toNat z25) a1 l2).bind fun t82 => some (!t82)) else none) else ((grapevineref15_holds_l3 a0 a1 l2 (grapevineref15_holds k) k 0).bind fun os86 => match os86 with | Sum.inl r => some r | Sum.inr s86 => some (a0.f0 == 7)))))))))
set_option maxHeartbeats 4000000 in
theorem grapevineref15_holds_calls_k (k : Nat) : ∀ {B : World} {G : GMap} {Γ : List Chunk} {W : World} (a0 : T25) (a1 : T31) (l2 : List T45) (Aa0_f2 : Option Addr) (ca0_f2 : Nat) (Ha0_f2 : Rd kStr G Aa0_f2 ca0_f2 a0.f2) (Aa0_f3 : Option Addr) (ca0_f3 : Nat) (Ha0_f3 : Rd k25 G Aa0_f3 ca0_f3 a0.f3) (Al2 : Option Addr) (cl2 : Nat) (Hl2 : Rd k45 G Al2 cl2 l2) (r : Bool) (h : grapevineref15_holds k a0 a1 l2 = some r) (hI : Inv B G (Γ) W),
    Calls Tryd.prog 30 [.agg #[.int .i64 a0.f0, .int .i64 a0.f1, .slice Aa0_f2 a0.f2.length ca0_f2, .slice Aa0_f3 a0.f3.length ca0_f3], .agg #[.int .i64 a1.f0, .int .i64 a1.f1, .int .i64 a1.f2, .int .i64 a1.f3, .string a1.f4], .slice Al2 l2.length cl2].toArray W (Ret B (fun v G' Γ' => v = .bool r ∧ G = G' ∧ Γ = Γ')) := by
  induction k with
  | zero => intro B G Γ W a0 a1 l2 Aa0_f2 ca0_f2 Ha0_f2 Aa0_f3 ca0_f3 Ha0_f3 Al2 cl2 Hl2 r h hI; exact absurd h (by simp [grapevineref15_holds])
  | succ kf ih =>
    intro B G Γ W a0 a1 l2 Aa0_f2 ca0_f2 Ha0_f2 Aa0_f3 ca0_f3 Ha0_f3 Al2 cl2 Hl2 r h hI
    refine calls_WP (Γ := Γ) (G := G) (B := B) Tryd.func30 rfl (by kernel_rfl) ?_ hI
    clear hI
    simp only [grapevineref15_holds] at h
    refine WP.seqR ?_
    refine WL.op (op := .box 25 (.tmp 0)) (ty := 0) (d := some 3) (g := none) (by kernel_rfl) (by kernel_rfl) (by kernel_rfl) (Does.new (o := .cells #[.int .i64 a0.f0, .int .i64 a0.f1, .slice Aa0_f2 a0.f2.length ca0_f2, .slice Aa0_f3 a0.f3.length ca0_f3] 25 (0, 0)) (v := fun r => .pointer (some ⟨r, 0, none⟩)) (fun r => by kernel_rfl)) ?_
    rintro _ _ _ ⟨b1, rfl, rfl, rfl⟩
    refine WL.op (op := .box 31 (.tmp 1)) (ty := 0) (d := some 4) (g := none) (by kernel_rfl) (by kernel_rfl) (by kernel_rfl) (Does.new (o := .cells #[.int .i64 a1.f0, .int .i64 a1.f1, .int .i64 a1.f2, .int .i64 a1.f3, .string a1.f4] 31 (0, 0)) (v := fun r => .pointer (some ⟨r, 0, none⟩)) (fun r => by kernel_rfl)) ?_
    rintro _ _ _ ⟨b2, rfl, rfl, rfl⟩
    refine WL.restQ 2 [2, 3, 4] (L' := [(2, .slice Al2 l2.length cl2), (3, .pointer (some ⟨b1, 0, none⟩)), (4, .pointer (some ⟨b2, 0, none⟩))]) (by kernel_rfl) ?_
    refine WP.seq ?_
    refine WP.seqR ?_
    refine WL.pure 0 1 [2, 3, 4, 10] (L' := [(2, .slice Al2 l2.length cl2), (3, .pointer (some ⟨b1, 0, none⟩)), (4, .pointer (some ⟨b2, 0, none⟩)), (10, .pointer (some ⟨b1, 0, none⟩))]) (by kernel_rfl) (by decide) ?_
    refine WL.tell (op := .load 3 (.tmp 10)) (ty := 3) (d := some 11) (g := none) (by kernel_rfl) (by kernel_rfl) (by kernel_rfl) (Tells.load_box (i := 1) (b := b1) (o := 0) (agg := false) (by rfl) ag3 (by kernel_rfl) (fun _ => rfl) (Nat.le_of_ble_eq_true rfl) (v := .int .i64 a0.f0) (by kernel_rfl)) ?_
    refine WL.restQ 2 [2, 3, 4, 11] (L' := [(2, .slice Al2 l2.length cl2), (3, .pointer (some ⟨b1, 0, none⟩)), (4, .pointer (some ⟨b2, 0, none⟩)), (11, .int .i64 a0.f0)]) (by kernel_rfl) ?_
    refine WP.block ?_
    refine WP.seq ?_
    refine WP.seqP [2, 3, 4, 11, 12] (L' := [(2, .slice Al2 l2.length cl2), (3, .pointer (some ⟨b1, 0, none⟩)), (4, .pointer (some ⟨b2, 0, none⟩)), (11, .int .i64 a0.f0), (12, .bool (a0.f0 == 1))]) (by kernel_rfl) ?_
    refine WP.cond (b := (a0.f0 == 1)) (by kernel_rfl) (fun hc => ?_) (fun hc => ?_)
    · replace hc := eq_of_beq hc
      rw [if_pos hc] at h
      have hc3 := hc
      clear hc
      refine WP.skip ?_
      refine QP.next ?_
      refine WP.pick [2, 3, 4, 11, 12] ?_
      refine WP.cond (b := (a0.f0 == 1)) (by kernel_rfl) (fun hc => ?_) (fun hc => ?_)
      · replace hc := eq_of_beq hc
        rw [if_pos hc] at h
        have hc4 := hc
        clear hc
        refine WP.seqR ?_
        refine WL.pure 0 2 [15, 16] (L' := [(15, .slice Al2 l2.length cl2), (16, .pointer (some ⟨b1, 2, none⟩))]) (by kernel_rfl) (by decide) ?_
        refine WL.tell (op := .load 22 (.tmp 16)) (ty := 22) (d := some 17) (g := none) (by kernel_rfl) (by kernel_rfl) (by kernel_rfl) (Tells.load_box (i := 1) (b := b1) (o := 2) (agg := false) (by rfl) ag22 (by kernel_rfl) (fun _ => rfl) (Nat.le_of_ble_eq_true rfl) (v := .slice Aa0_f2 a0.f2.length ca0_f2) (by kernel_rfl)) ?_
        rw [Option.bind_eq_some_iff] at h
        obtain ⟨t5, ht6, h⟩ := h
        refine WL.op (op := .call { callee := (.value (.func 15)), args := #[(.tmp 15), (.tmp 17)], argTypes := #[32, 22] }) (ty := 4) (d := some 18) (g := none) (by kernel_rfl) (by kernel_rfl) (by kernel_rfl) (Does.call (f := 15) (args := [.slice Al2 l2.length cl2, .slice Aa0_f2 a0.f2.length ca0_f2]) (by kernel_rfl) (fun W hI => (grapevineref15_Phrase_calls kf l2 a0.f2 Al2 cl2 Hl2 Aa0_f2 ca0_f2 Ha0_f2 t5 ht6 hI))) ?_
        rintro _ _ _ ⟨rfl, rfl, rfl⟩
        refine WL.restQ 4 [6] (L' := [(6, .bool t5)]) (by kernel_rfl) ?_
        refine WP.dropAt 1 ?_
        refine WP.dropAt 0 ?_
        refine WP.ret ?_
        refine QP.blockR ?_
        refine QP.thenR ?_
        obtain rfl := Option.some.inj h
        exact QP.returned [6] [.bool t5] _ (by kernel_rfl) (by kernel_rfl) (by kernel_rfl) (fun W hI => ⟨_, _, _, rfl, ⟨rfl, rfl, rfl⟩, hI⟩)
      · replace hc := ne_of_beq_false hc
        rw [if_neg hc] at h
        have hc4 := hc
        clear hc
        refine WP.seqP [2, 3, 4, 11, 19] (L' := [(2, .slice Al2 l2.length cl2), (3, .pointer (some ⟨b1, 0, none⟩)), (4, .pointer (some ⟨b2, 0, none⟩)), (11, .int .i64 a0.f0), (19, .bool (a0.f0 == 2))]) (by kernel_rfl) ?_
        refine WP.cond (b := (a0.f0 == 2)) (by kernel_rfl) (fun hc => ?_) (fun hc => ?_)
        · replace hc := eq_of_beq hc
          rw [if_pos hc] at h
          have hc9 := hc
          clear hc
          refine WP.seq ?_
          refine WP.seqP [2, 3, 7] (L' := [(2, .slice Al2 l2.length cl2), (3, .pointer (some ⟨b1, 0, none⟩)), (7, .int .i64 0)]) (by kernel_rfl) ?_
          refine WP.dropAt 0 ?_
          rw [Option.bind_eq_some_iff] at h
          obtain ⟨os10, h, hk11⟩ := h
          refine WP.cutQ (fun L' G' Γ' => ∃ s10 : Unit, Sum.inr s10 = os10 ∧ L' = [] ∧ G = G' ∧ Γ = Γ') ?_ ?_
          · skip
            refine WP.block ?_
            refine WP.pick [2, 3, 7] ?_
            refine WP.loopF (fun kn13 L' G' Γ' => ∃ (y12 : Int), grapevineref15_holds_l0 a0 l2 kn13 y12 = some os10 ∧ L' = [(2, .slice Al2 l2.length cl2), (3, .pointer (some ⟨b1, 0, none⟩)), (7, .int .i64 y12)] ∧ G = G' ∧ [(b1, .cells #[.int .i64 a0.f0, .int .i64 a0.f1, .slice Aa0_f2 a0.f2.length ca0_f2, .slice Aa0_f3 a0.f3.length ca0_f3] 25 (0, 0))] :: Γ = Γ') ?_ kf ⟨0, h, rfl, rfl, rfl⟩
            clear h
            rintro kn14 _ _ _ ⟨y12, h, rfl, rfl, rfl⟩
            cases kn14 with
            | zero => exact absurd h (by simp [grapevineref15_holds_l0])
            | succ kn14 =>
              simp only [grapevineref15_holds_l0] at h
              refine WP.seq ?_
              refine WP.seqP [2, 3, 7, 24] (L' := [(2, .slice Al2 l2.length cl2), (3, .pointer (some ⟨b1, 0, none⟩)), (7, .int .i64 y12), (24, .bool (decide (y12 < (l2.length : Int))))]) (by kernel_rfl) ?_
              refine WP.cond (b := decide (y12 < (l2.length : Int))) (by kernel_rfl) (fun hc => ?_) (fun hc => ?_)
              · replace hc := of_decide_eq_true hc
                rw [if_pos hc] at h
                have hc15 := hc
                clear hc
                refine WP.skip ?_
                refine QP.next ?_
                refine WP.pick [2, 3, 7] ?_
                refine WP.seq ?_
                refine WP.block ?_
                refine WP.seqR ?_
                refine WL.pure 0 1 [2, 3, 7, 27] (L' := [(2, .slice Al2 l2.length cl2), (3, .pointer (some ⟨b1, 0, none⟩)), (7, .int .i64 y12), (27, .pointer (some ⟨b1, 2, none⟩))]) (by kernel_rfl) (by decide) ?_
                refine WL.tell (op := .load 22 (.tmp 27)) (ty := 22) (d := some 28) (g := none) (by kernel_rfl) (by kernel_rfl) (by kernel_rfl) (Tells.load_box (i := 0) (b := b1) (o := 2) (agg := false) (by rfl) ag22 (by kernel_rfl) (fun _ => rfl) (Nat.le_of_ble_eq_true rfl) (v := .slice Aa0_f2 a0.f2.length ca0_f2) (by kernel_rfl)) ?_
                by_cases hb16 : 0 ≤ (0 : Int) ∧ (0 : Int) < (a0.f2.length : Int)
                case neg => rw [if_neg hb16] at h; cases h
                rw [if_pos hb16] at h
                refine WL.tell (op := .indexAddr 22 (.tmp 28) (.const (.int .i64 0))) (ty := 0) (d := some 29) (g := none) (by kernel_rfl) (by kernel_rfl) (by kernel_rfl) (Tells.indexAddr (A := Aa0_f2) (n := a0.f2.length) (c := ca0_f2) (k := .i64) (j := 0) (by kernel_rfl) (by kernel_rfl) (Ha0_f2.isSome hb16.1 hb16.2) hb16.1 hb16.2 sl22) ?_
                refine WL.tellE (op := .load 9 (.tmp 29)) (ty := 9) (d := some 30) (g := none) (by kernel_rfl) (by kernel_rfl) (by kernel_rfl) (Ha0_f2.load (agg := false) hb16.1 hb16.2 (⟨#[]⟩ : ByteArray) ag9 (fun _ => rfl) (by kernel_rfl)) ?_
                rintro _ rfl
                refine WL.restQ 4 [2, 3, 7, 8] (L' := [(2, .slice Al2 l2.length cl2), (3, .pointer (some ⟨b1, 0, none⟩)), (7, .int .i64 y12), (8, .int .i64 ((a0.f2.getD (0 : Int).toNat (⟨#[]⟩ : ByteArray)).size : Int))]) (by kernel_rfl) ?_
                obtain ⟨v17, hv18, h⟩ := Option.bind_eq_some_iff.1 h
                replace hv18 := Option.some.inj hv18
                refine WP.reput 8 (v := .int .i64 ((a0.f2.getD (0 : Int).toNat (⟨#[]⟩ : ByteArray)).size : Int)) (v' := .int .i64 v17) (by kernel_rfl) (by subst hv18; rfl) ?_
                refine WP.pick [2, 3, 7, 8] ?_
                rw [Option.bind_eq_some_iff] at h
                obtain ⟨os19, h, hk20⟩ := h
                refine WP.cut (fun L' G' Γ' => ∃ s19 : Bool, s19 = os19 ∧ L' = [(2, .slice Al2 l2.length cl2), (3, .pointer (some ⟨b1, 0, none⟩)), (7, .int .i64 y12), (53, .bool s19)] ∧ G = G' ∧ [(b1, .cells #[.int .i64 a0.f0, .int .i64 a0.f1, .slice Aa0_f2 a0.f2.length ca0_f2, .slice Aa0_f3 a0.f3.length ca0_f3] 25 (0, 0))] :: Γ = Γ') ?_ ?_
                · clear hk20
                  skip
                  refine WP.any (N := 22) (S := [⟨some 32, [2], []⟩, ⟨some 33, [7], []⟩, ⟨some 34, [32, 33], [0, 1]⟩, ⟨some 35, [34], [2]⟩, ⟨some 36, [35], [3]⟩, ⟨some 37, [36], [4]⟩, ⟨some 38, [8], []⟩, ⟨some 39, [37, 38], [5, 6]⟩, ⟨some 40, [39], [7]⟩, ⟨some 41, [2, 40], [8]⟩, ⟨some 42, [7, 40], [8]⟩, ⟨some 43, [40, 41, 42], [8, 9, 10]⟩, ⟨some 44, [40, 43], [8, 11]⟩, ⟨some 45, [40, 44], [8, 12]⟩, ⟨some 46, [8, 40], [8]⟩, ⟨some 47, [40, 45, 46], [8, 13, 14]⟩, ⟨some 48, [3, 40], [8]⟩, ⟨some 49, [40, 48], [8, 16]⟩, ⟨some 50, [40, 49], [8, 17]⟩, ⟨some 51, [40, 50], [8, 18]⟩, ⟨some 52, [40, 47, 51], [8, 15, 19]⟩, ⟨some 53, [40, 52], [8, 20]⟩]) (kw := 22) (G0 := G) (Γ0 := [(b1, .cells #[.int .i64 a0.f0, .int .i64 a0.f1, .slice Aa0_f2 a0.f2.length ca0_f2, .slice Aa0_f3 a0.f3.length ca0_f3] 25 (0, 0))] :: Γ) mo (by kernel_rfl) (fun hS => ?_)
                  refine WA.pure [0, 1, 6] [2, 3, 7, 8, 32, 33, 38] (m := 19) (b' := 67) (L' := [(2, .slice Al2 l2.length cl2), (3, .pointer (some ⟨b1, 0, none⟩)), (7, .int .i64 y12), (8, .int .i64 v17), (32, .slice Al2 l2.length cl2), (33, .int .i64 y12), (38, .int .i64 v17)]) (by kernel_rfl) (NoPanic.then (NoPanic.block (NoPanic.then (NoPanic.then (NoPanic.block (NoPanic.then (NoPanic.then (NoPanic.block (NoPanic.then (NoPanic.body)))))))))) Under.refl hS (by kernel_rfl) ?_
                  by_cases hb21 : 0 ≤ y12 ∧ y12 < (l2.length : Int)
                  case neg => rw [if_neg hb21] at h; cases h
                  rw [if_pos hb21] at h
                  refine WA.tellD [] (i := 2) (m := 18) (b' := 71) (by kernel_rfl) (NoPanic.then (NoPanic.block (NoPanic.then (NoPanic.then (NoPanic.block (NoPanic.then (NoPanic.then (NoPanic.block (NoPanic.then (NoPanic.body)))))))))) Under.refl hS (by kernel_rfl) (op := .indexAddr 32 (.tmp 32) (.tmp 33)) (ty := 0) (d := some 34) (g := none) (by kernel_rfl) (by kernel_rfl) (by kernel_rfl) (Tells.indexAddr (A := Al2) (n := l2.length) (c := cl2) (k := .i64) (j := y12) (by kernel_rfl) (by kernel_rfl) (Hl2.isSome hb21.1 hb21.2) hb21.1 hb21.2 sl32) ?_
                  refine WA.tellD [] (i := 3) (m := 17) (b' := 79) (by kernel_rfl) (NoPanic.then (NoPanic.block (NoPanic.then (NoPanic.then (NoPanic.block (NoPanic.then (NoPanic.then (NoPanic.block (NoPanic.then (NoPanic.body)))))))))) Under.refl hS (by kernel_rfl) (op := .fieldAddr 45 (.tmp 34) 0) (ty := 0) (d := some 35) (g := none) (by kernel_rfl) (by kernel_rfl) (by kernel_rfl) (Tells.fieldElem (m := y12.toNat * 2) (A := Al2) (by kernel_rfl) (Hl2.isSome hb21.1 hb21.2) fi45_0) ?_
                  refine WA.tellDE [] (i := 4) (m := 16) (b' := 95) (by kernel_rfl) (NoPanic.then (NoPanic.block (NoPanic.then (NoPanic.then (NoPanic.block (NoPanic.then (NoPanic.then (NoPanic.block (NoPanic.then (NoPanic.body)))))))))) Under.refl hS (by kernel_rfl) (op := .load 9 (.tmp 35)) (ty := 9) (d := some 36) (g := none) (by kernel_rfl) (by kernel_rfl) (by kernel_rfl) (Hl2.loadF (agg := false) (off := 0) hb21.1 hb21.2 z45 ag9 (fun _ => rfl) (by decide) (by kernel_rfl)) ?_
                  rintro _ rfl
                  refine WA.pure [5, 7, 8] [2, 3, 7, 8, 40] (m := 13) (b' := 511) (L' := [(2, .slice Al2 l2.length cl2), (3, .pointer (some ⟨b1, 0, none⟩)), (7, .int .i64 y12), (8, .int .i64 v17), (40, .bool (decide ((((l2.getD y12.toNat z45).f0).size : Int) ≥ v17)))]) (by kernel_rfl) (NoPanic.then (NoPanic.block (NoPanic.then (NoPanic.then (NoPanic.block (NoPanic.then (NoPanic.then (NoPanic.block (NoPanic.then (NoPanic.body)))))))))) Under.refl hS (by kernel_rfl) ?_
                  refine WA.split 40 (b := decide ((((l2.getD y12.toNat z45).f0).size : Int) ≥ v17)) (by kernel_rfl) (fun hc => ?_) (fun hc => ?_)
                  · replace hc := of_decide_eq_true hc
                    rw [if_pos hc] at h
                    have hc22 := hc
                    clear hc
                    refine WA.pure [9, 10, 14, 16] [2, 3, 7, 40, 41, 42, 46, 48] (m := 9) (b' := 83967) (L' := [(2, .slice Al2 l2.length cl2), (3, .pointer (some ⟨b1, 0, none⟩)), (7, .int .i64 y12), (40, .bool true), (41, .slice Al2 l2.length cl2), (42, .int .i64 y12), (46, .int .i64 v17), (48, .pointer (some ⟨b1, 2, none⟩))]) (by kernel_rfl) (NoPanic.then (NoPanic.block (NoPanic.then (NoPanic.then (NoPanic.block (NoPanic.then (NoPanic.then (NoPanic.block (NoPanic.then (NoPanic.body)))))))))) Under.refl hS (by kernel_rfl) ?_
                    by_cases hb23 : 0 ≤ y12 ∧ y12 < (l2.length : Int)
                    case neg => rw [if_neg hb23] at h; cases h
                    rw [if_pos hb23] at h
                    refine WA.tellD [] (i := 11) (m := 8) (b' := 86015) (by kernel_rfl) (NoPanic.then (NoPanic.block (NoPanic.then (NoPanic.then (NoPanic.block (NoPanic.then (NoPanic.then (NoPanic.block (NoPanic.then (NoPanic.body)))))))))) Under.refl hS (by kernel_rfl) (op := .indexAddr 32 (.tmp 41) (.tmp 42)) (ty := 0) (d := some 43) (g := some (8, true)) (by kernel_rfl) (by kernel_rfl) (by kernel_rfl) (Tells.indexAddr (A := Al2) (n := l2.length) (c := cl2) (k := .i64) (j := y12) (by kernel_rfl) (by kernel_rfl) (Hl2.isSome hb23.1 hb23.2) hb23.1 hb23.2 sl32) ?_
                    refine WA.tellD [] (i := 12) (m := 7) (b' := 90111) (by kernel_rfl) (NoPanic.then (NoPanic.block (NoPanic.then (NoPanic.then (NoPanic.block (NoPanic.then (NoPanic.then (NoPanic.block (NoPanic.then (NoPanic.body)))))))))) Under.refl hS (by kernel_rfl) (op := .fieldAddr 45 (.tmp 43) 0) (ty := 0) (d := some 44) (g := some (8, true)) (by kernel_rfl) (by kernel_rfl) (by kernel_rfl) (Tells.fieldElem (m := y12.toNat * 2) (A := Al2) (by kernel_rfl) (Hl2.isSome hb23.1 hb23.2) fi45_0) ?_
                    refine WA.tellDE [] (i := 13) (m := 6) (b' := 98303) (by kernel_rfl) (NoPanic.then (NoPanic.block (NoPanic.then (NoPanic.then (NoPanic.block (NoPanic.then (NoPanic.then (NoPanic.block (NoPanic.then (NoPanic.body)))))))))) Under.refl hS (by kernel_rfl) (op := .load 9 (.tmp 44)) (ty := 9) (d := some 45) (g := some (8, true)) (by kernel_rfl) (by kernel_rfl) (by kernel_rfl) (Hl2.loadF (agg := false) (off := 0) hb23.1 hb23.2 z45 ag9 (fun _ => rfl) (by decide) (by kernel_rfl)) ?_
                    rintro _ rfl
                    by_cases hb24 : 0 ≤ (0 : Int) ∧ (0 : Int) ≤ v17 ∧ v17 ≤ (((l2.getD y12.toNat z45).f0).size : Int)
                    case neg => rw [if_neg hb24] at h; cases h
                    rw [if_pos hb24] at h
                    refine WA.tellD [] (i := 15) (m := 5) (b' := 131071) (by kernel_rfl) (NoPanic.then (NoPanic.block (NoPanic.then (NoPanic.then (NoPanic.block (NoPanic.then (NoPanic.then (NoPanic.block (NoPanic.then (NoPanic.body)))))))))) Under.refl hS (by kernel_rfl) (op := .slice 9 (.tmp 45) none (some (.tmp 46)) none) (ty := 9) (d := some 47) (g := some (8, true)) (by kernel_rfl) (by kernel_rfl) (by kernel_rfl) (Tells.strPart (s := ((l2.getD y12.toNat z45).f0)) (l := 0) (h := v17) (by kernel_rfl) rfl ⟨.i64, by kernel_rfl⟩ hb24.1 hb24.2.1 hb24.2.2 st9) ?_
                    refine WA.tellD [] (i := 17) (m := 4) (b' := 262143) (by kernel_rfl) (NoPanic.then (NoPanic.block (NoPanic.then (NoPanic.then (NoPanic.block (NoPanic.then (NoPanic.then (NoPanic.block (NoPanic.then (NoPanic.body)))))))))) Under.refl hS (by kernel_rfl) (op := .load 22 (.tmp 48)) (ty := 22) (d := some 49) (g := some (8, true)) (by kernel_rfl) (by kernel_rfl) (by kernel_rfl) (Tells.load_box (i := 0) (b := b1) (o := 2) (agg := false) (by rfl) ag22 (by kernel_rfl) (fun _ => rfl) (Nat.le_of_ble_eq_true rfl) (v := .slice Aa0_f2 a0.f2.length ca0_f2) (by kernel_rfl)) ?_
                    by_cases hb25 : 0 ≤ (0 : Int) ∧ (0 : Int) < (a0.f2.length : Int)
                    case neg => rw [if_neg hb25] at h; cases h
                    rw [if_pos hb25] at h
                    refine WA.tellD [] (i := 18) (m := 3) (b' := 524287) (by kernel_rfl) (NoPanic.then (NoPanic.block (NoPanic.then (NoPanic.then (NoPanic.block (NoPanic.then (NoPanic.then (NoPanic.block (NoPanic.then (NoPanic.body)))))))))) Under.refl hS (by kernel_rfl) (op := .indexAddr 22 (.tmp 49) (.const (.int .i64 0))) (ty := 0) (d := some 50) (g := some (8, true)) (by kernel_rfl) (by kernel_rfl) (by kernel_rfl) (Tells.indexAddr (A := Aa0_f2) (n := a0.f2.length) (c := ca0_f2) (k := .i64) (j := 0) (by kernel_rfl) (by kernel_rfl) (Ha0_f2.isSome hb25.1 hb25.2) hb25.1 hb25.2 sl22) ?_
                    refine WA.tellDE [] (i := 19) (m := 2) (b' := 1048575) (by kernel_rfl) (NoPanic.then (NoPanic.block (NoPanic.then (NoPanic.then (NoPanic.block (NoPanic.then (NoPanic.then (NoPanic.block (NoPanic.then (NoPanic.body)))))))))) Under.refl hS (by kernel_rfl) (op := .load 9 (.tmp 50)) (ty := 9) (d := some 51) (g := some (8, true)) (by kernel_rfl) (by kernel_rfl) (by kernel_rfl) (Ha0_f2.load (agg := false) hb25.1 hb25.2 (⟨#[]⟩ : ByteArray) ag9 (fun _ => rfl) (by kernel_rfl)) ?_
                    rintro _ rfl
                    refine WA.pure [20, 21] [2, 3, 7, 53] (m := 0) (b' := 4194303) (L' := [(2, .slice Al2 l2.length cl2), (3, .pointer (some ⟨b1, 0, none⟩)), (7, .int .i64 y12), (53, .bool ((((l2.getD y12.toNat z45).f0).extract (0 : Int).toNat v17.toNat).toList == (a0.f2.getD (0 : Int).toNat (⟨#[]⟩ : ByteArray)).toList))]) (by kernel_rfl) (NoPanic.then (NoPanic.block (NoPanic.then (NoPanic.then (NoPanic.block (NoPanic.then (NoPanic.then (NoPanic.block (NoPanic.then (NoPanic.body)))))))))) Under.refl hS (by kernel_rfl) ?_
                    refine WA.done hS (by kernel_rfl) ?_
                    refine QP.pick [2, 3, 7, 53] ?_
                    refine QP.pick [2, 3, 7, 53] ?_
                    exact QP.meet ⟨_, Option.some.inj h, rfl, rfl, rfl⟩
                  · replace hc := of_decide_eq_false hc
                    rw [if_neg hc] at h
                    have hc22 := hc
                    clear hc
                    refine WA.pure [9, 10, 11, 12, 13, 14, 15, 16, 17, 18, 19, 20, 21] [2, 3, 7, 53] (m := 0) (b' := 4194303) (L' := [(2, .slice Al2 l2.length cl2), (3, .pointer (some ⟨b1, 0, none⟩)), (7, .int .i64 y12), (53, .bool false)]) (by kernel_rfl) (NoPanic.then (NoPanic.block (NoPanic.then (NoPanic.then (NoPanic.block (NoPanic.then (NoPanic.then (NoPanic.block (NoPanic.then (NoPanic.body)))))))))) Under.refl hS (by kernel_rfl) ?_
                    refine WA.done hS (by kernel_rfl) ?_
                    refine QP.pick [2, 3, 7, 53] ?_
                    refine QP.pick [2, 3, 7, 53] ?_
                    exact QP.meet ⟨_, Option.some.inj h, rfl, rfl, rfl⟩
                · rintro _ _ _ ⟨s19, rfl, rfl, rfl, rfl⟩
                  clear h
                  replace h := hk20
                  refine WP.cond (b := s19) (by kernel_rfl) (fun hc => ?_) (fun hc => ?_)
                  · replace hc := hc
                    rw [if_pos hc] at h
                    have hc26 := hc
                    clear hc
                    refine WP.seqP [6] (L' := [(6, .bool true)]) (by kernel_rfl) ?_
                    refine WP.dropAt 0 ?_
                    refine WP.ret ?_
                    refine QP.blockR ?_
                    refine QP.thenR ?_
                    refine QP.thenR ?_
                    refine QP.blockR ?_
                    refine QP.thenR ?_
                    refine QP.thenR ?_
                    refine QP.blockR ?_
                    refine QP.thenR ?_
                    obtain rfl := Option.some.inj h
                    obtain rfl := Option.some.inj (show some _ = some _ from hk11)
                    exact QP.returned [6] [.bool true] _ (by kernel_rfl) (by kernel_rfl) (by kernel_rfl) (fun W hI => ⟨_, _, _, rfl, ⟨rfl, rfl, rfl⟩, hI⟩)
                  · replace hc := (Bool.eq_false_iff.1 hc)
                    rw [if_neg hc] at h
                    have hc26 := hc
                    clear hc
                    refine WP.skip ?_
                    refine QP.blockN ?_
                    refine QP.next ?_
                    refine WP.pick [2, 3, 7] ?_
                    refine WP.regionP [2, 3, 7] (L' := [(2, .slice Al2 l2.length cl2), (3, .pointer (some ⟨b1, 0, none⟩)), (7, .int .i64 (IntKind.i64.wrap (y12 + 1)))]) (by kernel_rfl) ?_
                    refine QP.pick [2, 3, 7] ?_
                    exact QP.meet ⟨kn14, Nat.lt_succ_self _, (IntKind.i64.wrap (y12 + 1)), h, rfl, rfl, rfl⟩
              · replace hc := of_decide_eq_false hc
                rw [if_neg hc] at h
                have hc15 := hc
                clear hc
                refine WP.exit ?_
                refine QP.thenE ?_
                refine QP.thenE ?_
                refine QP.blockE ?_
                refine QP.dropAt 0 ?_
                refine QP.pick [] ?_
                exact QP.meet ⟨_, Option.some.inj h, rfl, rfl, rfl⟩
          · rintro _ _ _ ⟨s10, rfl, rfl, rfl, rfl⟩
            clear h
            replace h := hk11
            dsimp only at h
            refine QP.next ?_
            refine WP.pick [] ?_
            refine WP.seqP [6] (L' := [(6, .bool false)]) (by kernel_rfl) ?_
            refine WP.ret ?_
            refine QP.blockR ?_
            refine QP.thenR ?_
            obtain rfl := Option.some.inj h
            exact QP.returned [6] [.bool false] _ (by kernel_rfl) (by kernel_rfl) (by kernel_rfl) (fun W hI => ⟨_, _, _, rfl, ⟨rfl, rfl, rfl⟩, hI⟩)
        · replace hc := ne_of_beq_false hc
          rw [if_neg hc] at h
          have hc9 := hc
          clear hc
          refine WP.seqP [2, 3, 4, 11, 54] (L' := [(2, .slice Al2 l2.length cl2), (3, .pointer (some ⟨b1, 0, none⟩)), (4, .pointer (some ⟨b2, 0, none⟩)), (11, .int .i64 a0.f0), (54, .bool (a0.f0 == 4))]) (by kernel_rfl) ?_
          refine WP.cond (b := (a0.f0 == 4)) (by kernel_rfl) (fun hc => ?_) (fun hc => ?_)
          · replace hc := eq_of_beq hc
            rw [if_pos hc] at h
            have hc27 := hc
            clear hc
            refine WP.seqR ?_
            refine WL.pure 0 2 [3, 57] (L' := [(3, .pointer (some ⟨b1, 0, none⟩)), (57, .pointer (some ⟨b2, 0, none⟩))]) (by kernel_rfl) (by decide) ?_
            refine WL.tell (op := .load 3 (.tmp 57)) (ty := 3) (d := some 58) (g := none) (by kernel_rfl) (by kernel_rfl) (by kernel_rfl) (Tells.load_box (i := 0) (b := b2) (o := 0) (agg := false) (by rfl) ag3 (by kernel_rfl) (fun _ => rfl) (Nat.le_of_ble_eq_true rfl) (v := .int .i64 a1.f0) (by kernel_rfl)) ?_
            refine WL.pure 3 4 [58, 59] (L' := [(58, .int .i64 a1.f0), (59, .pointer (some ⟨b1, 1, none⟩))]) (by kernel_rfl) (by decide) ?_
            refine WL.tell (op := .load 3 (.tmp 59)) (ty := 3) (d := some 60) (g := none) (by kernel_rfl) (by kernel_rfl) (by kernel_rfl) (Tells.load_box (i := 1) (b := b1) (o := 1) (agg := false) (by rfl) ag3 (by kernel_rfl) (fun _ => rfl) (Nat.le_of_ble_eq_true rfl) (v := .int .i64 a0.f1) (by kernel_rfl)) ?_
            refine WL.restQ 5 [6] (L' := [(6, .bool (a1.f0 == a0.f1))]) (by kernel_rfl) ?_
            refine WP.dropAt 1 ?_
            refine WP.dropAt 0 ?_
            refine WP.ret ?_
            refine QP.blockR ?_
            refine QP.thenR ?_
            obtain rfl := Option.some.inj h
            exact QP.returned [6] [.bool (a1.f0 == a0.f1)] _ (by kernel_rfl) (by kernel_rfl) (by kernel_rfl) (fun W hI => ⟨_, _, _, rfl, ⟨rfl, rfl, rfl⟩, hI⟩)
          · replace hc := ne_of_beq_false hc
            rw [if_neg hc] at h
            have hc27 := hc
            clear hc
            refine WP.seqP [2, 3, 4, 11, 62] (L' := [(2, .slice Al2 l2.length cl2), (3, .pointer (some ⟨b1, 0, none⟩)), (4, .pointer (some ⟨b2, 0, none⟩)), (11, .int .i64 a0.f0), (62, .bool (a0.f0 == 5))]) (by kernel_rfl) ?_
            refine WP.cond (b := (a0.f0 == 5)) (by kernel_rfl) (fun hc => ?_) (fun hc => ?_)
            · replace hc := eq_of_beq hc
              rw [if_pos hc] at h
              have hc28 := hc
              clear hc
              refine WP.seqR ?_
              refine WL.pure 0 2 [3, 65] (L' := [(3, .pointer (some ⟨b1, 0, none⟩)), (65, .pointer (some ⟨b2, 2, none⟩))]) (by kernel_rfl) (by decide) ?_
              refine WL.tell (op := .load 3 (.tmp 65)) (ty := 3) (d := some 66) (g := none) (by kernel_rfl) (by kernel_rfl) (by kernel_rfl) (Tells.load_box (i := 0) (b := b2) (o := 2) (agg := false) (by rfl) ag3 (by kernel_rfl) (fun _ => rfl) (Nat.le_of_ble_eq_true rfl) (v := .int .i64 a1.f2) (by kernel_rfl)) ?_
              refine WL.pure 3 4 [66, 67] (L' := [(66, .int .i64 a1.f2), (67, .pointer (some ⟨b1, 1, none⟩))]) (by kernel_rfl) (by decide) ?_
              refine WL.tell (op := .load 3 (.tmp 67)) (ty := 3) (d := some 68) (g := none) (by kernel_rfl) (by kernel_rfl) (by kernel_rfl) (Tells.load_box (i := 1) (b := b1) (o := 1) (agg := false) (by rfl) ag3 (by kernel_rfl) (fun _ => rfl) (Nat.le_of_ble_eq_true rfl) (v := .int .i64 a0.f1) (by kernel_rfl)) ?_
              refine WL.restQ 5 [6] (L' := [(6, .bool (decide (a1.f2 ≥ a0.f1)))]) (by kernel_rfl) ?_
              refine WP.dropAt 1 ?_
              refine WP.dropAt 0 ?_
              refine WP.ret ?_
              refine QP.blockR ?_
              refine QP.thenR ?_
              obtain rfl := Option.some.inj h
              exact QP.returned [6] [.bool (decide (a1.f2 ≥ a0.f1))] _ (by kernel_rfl) (by kernel_rfl) (by kernel_rfl) (fun W hI => ⟨_, _, _, rfl, ⟨rfl, rfl, rfl⟩, hI⟩)
            · replace hc := ne_of_beq_false hc
              rw [if_neg hc] at h
              have hc28 := hc
              clear hc
              refine WP.seqP [2, 3, 4, 11, 70] (L' := [(2, .slice Al2 l2.length cl2), (3, .pointer (some ⟨b1, 0, none⟩)), (4, .pointer (some ⟨b2, 0, none⟩)), (11, .int .i64 a0.f0), (70, .bool (a0.f0 == 6))]) (by kernel_rfl) ?_
              refine WP.cond (b := (a0.f0 == 6)) (by kernel_rfl) (fun hc => ?_) (fun hc => ?_)
              · replace hc := eq_of_beq hc
                rw [if_pos hc] at h
                have hc29 := hc
                clear hc
                refine WP.seqR ?_
                refine WL.pure 0 2 [3, 73] (L' := [(3, .pointer (some ⟨b1, 0, none⟩)), (73, .pointer (some ⟨b2, 2, none⟩))]) (by kernel_rfl) (by decide) ?_
                refine WL.tell (op := .load 3 (.tmp 73)) (ty := 3) (d := some 74) (g := none) (by kernel_rfl) (by kernel_rfl) (by kernel_rfl) (Tells.load_box (i := 0) (b := b2) (o := 2) (agg := false) (by rfl) ag3 (by kernel_rfl) (fun _ => rfl) (Nat.le_of_ble_eq_true rfl) (v := .int .i64 a1.f2) (by kernel_rfl)) ?_
                refine WL.pure 3 4 [74, 75] (L' := [(74, .int .i64 a1.f2), (75, .pointer (some ⟨b1, 1, none⟩))]) (by kernel_rfl) (by decide) ?_
                refine WL.tell (op := .load 3 (.tmp 75)) (ty := 3) (d := some 76) (g := none) (by kernel_rfl) (by kernel_rfl) (by kernel_rfl) (Tells.load_box (i := 1) (b := b1) (o := 1) (agg := false) (by rfl) ag3 (by kernel_rfl) (fun _ => rfl) (Nat.le_of_ble_eq_true rfl) (v := .int .i64 a0.f1) (by kernel_rfl)) ?_
                refine WL.restQ 5 [6] (L' := [(6, .bool (decide (a1.f2 ≤ a0.f1)))]) (by kernel_rfl) ?_
                refine WP.dropAt 1 ?_
                refine WP.dropAt 0 ?_
                refine WP.ret ?_
                refine QP.blockR ?_
                refine QP.thenR ?_
                obtain rfl := Option.some.inj h
                exact QP.returned [6] [.bool (decide (a1.f2 ≤ a0.f1))] _ (by kernel_rfl) (by kernel_rfl) (by kernel_rfl) (fun W hI => ⟨_, _, _, rfl, ⟨rfl, rfl, rfl⟩, hI⟩)
              · replace hc := ne_of_beq_false hc
                rw [if_neg hc] at h
                have hc29 := hc
                clear hc
                refine WP.seqP [2, 3, 4, 78] (L' := [(2, .slice Al2 l2.length cl2), (3, .pointer (some ⟨b1, 0, none⟩)), (4, .pointer (some ⟨b2, 0, none⟩)), (78, .bool (a0.f0 == 9))]) (by kernel_rfl) ?_
                refine WP.cond (b := (a0.f0 == 9)) (by kernel_rfl) (fun hc => ?_) (fun hc => ?_)
                · replace hc := eq_of_beq hc
                  rw [if_pos hc] at h
                  have hc30 := hc
                  clear hc
                  refine WP.seq ?_
                  refine WP.any (N := 9) (S := [⟨some 80, [3], []⟩, ⟨some 81, [80], [0]⟩, ⟨some 82, [81], [1]⟩, ⟨some 83, [82], [2]⟩, ⟨some 84, [4], []⟩, ⟨some 85, [2], []⟩, ⟨some 86, [83, 84, 85], [3, 4, 5]⟩, ⟨some 87, [86], [6]⟩, ⟨some 6, [87], [0, 1, 2, 3, 4, 5, 6, 7]⟩]) (kw := 9) (G0 := G) (Γ0 := [(b2, .cells #[.int .i64 a1.f0, .int .i64 a1.f1, .int .i64 a1.f2, .int .i64 a1.f3, .string a1.f4] 31 (0, 0))] :: [(b1, .cells #[.int .i64 a0.f0, .int .i64 a0.f1, .slice Aa0_f2 a0.f2.length ca0_f2, .slice Aa0_f3 a0.f3.length ca0_f3] 25 (0, 0))] :: Γ) mo (by kernel_rfl) (fun hS => ?_)
                  refine WA.pure [0, 5] [4, 80, 85] (m := 7) (b' := 33) (L' := [(4, .pointer (some ⟨b2, 0, none⟩)), (80, .pointer (some ⟨b1, 3, none⟩)), (85, .slice Al2 l2.length cl2)]) (by kernel_rfl) (NoPanic.then (NoPanic.block (NoPanic.then (NoPanic.body)))) Under.refl hS (by kernel_rfl) ?_
                  refine WA.tellD [] (i := 1) (m := 6) (b' := 35) (by kernel_rfl) (NoPanic.then (NoPanic.block (NoPanic.then (NoPanic.body)))) Under.refl hS (by kernel_rfl) (op := .load 23 (.tmp 80)) (ty := 23) (d := some 81) (g := none) (by kernel_rfl) (by kernel_rfl) (by kernel_rfl) (Tells.load_box (i := 1) (b := b1) (o := 3) (agg := false) (by rfl) ag23 (by kernel_rfl) (fun _ => rfl) (Nat.le_of_ble_eq_true rfl) (v := .slice Aa0_f3 a0.f3.length ca0_f3) (by kernel_rfl)) ?_
                  by_cases hb31 : 0 ≤ (0 : Int) ∧ (0 : Int) < (a0.f3.length : Int)
                  case neg => rw [if_neg hb31] at h; cases h
                  rw [if_pos hb31] at h
                  refine WA.tellD [] (i := 2) (m := 5) (b' := 39) (by kernel_rfl) (NoPanic.then (NoPanic.block (NoPanic.then (NoPanic.body)))) Under.refl hS (by kernel_rfl) (op := .indexAddr 23 (.tmp 81) (.const (.int .i64 0))) (ty := 0) (d := some 82) (g := none) (by kernel_rfl) (by kernel_rfl) (by kernel_rfl) (Tells.indexAddr (A := Aa0_f3) (n := a0.f3.length) (c := ca0_f3) (k := .i64) (j := 0) (by kernel_rfl) (by kernel_rfl) (Ha0_f3.isSome hb31.1 hb31.2) hb31.1 hb31.2 sl23) ?_
                  refine WA.tellDE [] (i := 3) (m := 4) (b' := 47) (by kernel_rfl) (NoPanic.then (NoPanic.block (NoPanic.then (NoPanic.body)))) Under.refl hS (by kernel_rfl) (op := .load 25 (.tmp 82)) (ty := 25) (d := some 83) (g := none) (by kernel_rfl) (by kernel_rfl) (by kernel_rfl) (Ha0_f3.load (agg := true) hb31.1 hb31.2 z25 ag25 (fun h => by cases h) (by kernel_rfl)) ?_
                  rintro _ hrel
                  obtain ⟨_, _, rfl, rfl, ⟨_, _, rfl, rfl, ⟨_, _, rfl, ⟨Ae32, ce32, rfl, He32⟩, ⟨Ae33, ce33, rfl, He33⟩⟩⟩⟩ := k25_out hrel
                  replace He32 : Rd kStr G Ae32 ce32 ((a0.f3.getD (0 : Int).toNat z25).f2) := He32
                  replace He33 : Rd k25 G Ae33 ce33 ((a0.f3.getD (0 : Int).toNat z25).f3) := He33
                  refine WA.tellD [] (i := 4) (m := 3) (b' := 63) (by kernel_rfl) (NoPanic.then (NoPanic.block (NoPanic.then (NoPanic.body)))) Under.refl hS (by kernel_rfl) (op := .load 31 (.tmp 4)) (ty := 31) (d := some 84) (g := none) (by kernel_rfl) (by kernel_rfl) (by kernel_rfl) (Tells.load_box (i := 0) (b := b2) (o := 0) (agg := true) (by rfl) ag31 (by kernel_rfl) (fun h => by cases h) (Nat.le_of_ble_eq_true rfl) (v := .agg #[.int .i64 a1.f0, .int .i64 a1.f1, .int .i64 a1.f2, .int .i64 a1.f3, .string a1.f4]) (by kernel_rfl)) ?_
                  rw [Option.bind_eq_some_iff] at h
                  obtain ⟨t34, ht35, h⟩ := h
                  refine WA.op (i := 6) (m := 2) (b' := 127) (by kernel_rfl) hS (by kernel_rfl) (op := .call { callee := (.value (.func 30)), args := #[(.tmp 83), (.tmp 84), (.tmp 85)], argTypes := #[25, 31, 32] }) (ty := 4) (d := some 86) (g := none) (by kernel_rfl) (by kernel_rfl) (by kernel_rfl) (Does.call (f := 30) (args := [.agg #[.int .i64 ((a0.f3.getD (0 : Int).toNat z25).f0), .int .i64 ((a0.f3.getD (0 : Int).toNat z25).f1), .slice Ae32 ((a0.f3.getD (0 : Int).toNat z25).f2).length ce32, .slice Ae33 ((a0.f3.getD (0 : Int).toNat z25).f3).length ce33], .agg #[.int .i64 a1.f0, .int .i64 a1.f1, .int .i64 a1.f2, .int .i64 a1.f3, .string a1.f4], .slice Al2 l2.length cl2]) (by kernel_rfl) (fun W hI => (ih (a0.f3.getD (0 : Int).toNat z25) a1 l2 Ae32 ce32 He32 Ae33 ce33 He33 Al2 cl2 Hl2 t34 ht35 hI))) ?_
                  rintro _ _ _ ⟨rfl, rfl, rfl⟩
                  refine ⟨_, _, Under.refl, Under.refl, ?_⟩
                  refine WA.pure [7, 8] [6] (m := 0) (b' := 511) (L' := [(6, .bool (!t34))]) (by kernel_rfl) (NoPanic.then (NoPanic.block (NoPanic.then (NoPanic.body)))) Under.refl hS (by kernel_rfl) ?_
                  refine WA.done hS (by kernel_rfl) ?_
                  refine QP.pick [6] ?_
                  refine QP.next ?_
                  refine WP.dropAt 1 ?_
                  refine WP.dropAt 0 ?_
                  refine WP.ret ?_
                  refine QP.blockR ?_
                  refine QP.thenR ?_
                  obtain rfl := Option.some.inj h
                  exact QP.returned [6] [.bool (!t34)] _ (by kernel_rfl) (by kernel_rfl) (by kernel_rfl) (fun W hI => ⟨_, _, _, rfl, ⟨rfl, rfl, rfl⟩, hI⟩)
                · replace hc := ne_of_beq_false hc
                  rw [if_neg hc] at h
                  have hc30 := hc
                  clear hc
                  refine WP.skip ?_
                  refine QP.blockN ?_
                  refine QP.next ?_
                  refine WP.pick [2, 3, 4] ?_
                  refine WP.seq ?_
                  refine WP.seqP [2, 3, 4, 9] (L' := [(2, .slice Al2 l2.length cl2), (3, .pointer (some ⟨b1, 0, none⟩)), (4, .pointer (some ⟨b2, 0, none⟩)), (9, .int .i64 0)]) (by kernel_rfl) ?_
                  rw [Option.bind_eq_some_iff] at h
                  obtain ⟨os38, h, hk39⟩ := h
                  refine WP.cutQ (fun L' G' Γ' => ∃ s38 : Unit, Sum.inr s38 = os38 ∧ L' = [(3, .pointer (some ⟨b1, 0, none⟩))] ∧ G = G' ∧ [(b1, .cells #[.int .i64 a0.f0, .int .i64 a0.f1, .slice Aa0_f2 a0.f2.length ca0_f2, .slice Aa0_f3 a0.f3.length ca0_f3] 25 (0, 0))] :: Γ = Γ') ?_ ?_
                  · skip
                    refine WP.block ?_
                    refine WP.pick [2, 3, 4, 9] ?_
                    refine WP.loopF (fun kn41 L' G' Γ' => ∃ (y40 : Int), grapevineref15_holds_l1 a0 a1 l2 (grapevineref15_holds kf) kn41 y40 = some os38 ∧ L' = [(2, .slice Al2 l2.length cl2), (3, .pointer (some ⟨b1, 0, none⟩)), (4, .pointer (some ⟨b2, 0, none⟩)), (9, .int .i64 y40)] ∧ G = G' ∧ [(b2, .cells #[.int .i64 a1.f0, .int .i64 a1.f1, .int .i64 a1.f2, .int .i64 a1.f3, .string a1.f4] 31 (0, 0))] :: [(b1, .cells #[.int .i64 a0.f0, .int .i64 a0.f1, .slice Aa0_f2 a0.f2.length ca0_f2, .slice Aa0_f3 a0.f3.length ca0_f3] 25 (0, 0))] :: Γ = Γ') ?_ kf ⟨0, h, rfl, rfl, rfl⟩
                    clear h
                    rintro kn42 _ _ _ ⟨y40, h, rfl, rfl, rfl⟩
                    cases kn42 with
                    | zero => exact absurd h (by simp [grapevineref15_holds_l1])
                    | succ kn42 =>
                      simp only [grapevineref15_holds_l1] at h
                      refine WP.seq ?_
                      refine WP.seqR ?_
                      refine WL.pure 0 2 [2, 3, 4, 9, 88, 89] (L' := [(2, .slice Al2 l2.length cl2), (3, .pointer (some ⟨b1, 0, none⟩)), (4, .pointer (some ⟨b2, 0, none⟩)), (9, .int .i64 y40), (88, .int .i64 y40), (89, .pointer (some ⟨b1, 3, none⟩))]) (by kernel_rfl) (by decide) ?_
                      refine WL.tell (op := .load 23 (.tmp 89)) (ty := 23) (d := some 90) (g := none) (by kernel_rfl) (by kernel_rfl) (by kernel_rfl) (Tells.load_box (i := 1) (b := b1) (o := 3) (agg := false) (by rfl) ag23 (by kernel_rfl) (fun _ => rfl) (Nat.le_of_ble_eq_true rfl) (v := .slice Aa0_f3 a0.f3.length ca0_f3) (by kernel_rfl)) ?_
                      refine WL.restQ 3 [2, 3, 4, 9, 92] (L' := [(2, .slice Al2 l2.length cl2), (3, .pointer (some ⟨b1, 0, none⟩)), (4, .pointer (some ⟨b2, 0, none⟩)), (9, .int .i64 y40), (92, .bool (decide (y40 < (a0.f3.length : Int))))]) (by kernel_rfl) ?_
                      refine WP.cond (b := decide (y40 < (a0.f3.length : Int))) (by kernel_rfl) (fun hc => ?_) (fun hc => ?_)
                      · replace hc := of_decide_eq_true hc
                        rw [if_pos hc] at h
                        have hc43 := hc
                        clear hc
                        refine WP.skip ?_
                        refine QP.next ?_
                        refine WP.pick [2, 3, 4, 9] ?_
                        refine WP.seq ?_
                        refine WP.block ?_
                        refine WP.seq ?_
                        refine WP.any (N := 12) (S := [⟨some 95, [3], []⟩, ⟨some 96, [95], [0]⟩, ⟨some 97, [9], []⟩, ⟨some 98, [96, 97], [1, 2]⟩, ⟨some 99, [98], [3]⟩, ⟨some 100, [4], []⟩, ⟨some 101, [2], []⟩, ⟨some 102, [99, 100, 101], [4, 5, 6]⟩, ⟨some 103, [3], []⟩, ⟨some 104, [103], [8]⟩, ⟨some 105, [104], [9]⟩, ⟨some 106, [102, 105], [7, 10]⟩]) (kw := 12) (G0 := G) (Γ0 := [(b2, .cells #[.int .i64 a1.f0, .int .i64 a1.f1, .int .i64 a1.f2, .int .i64 a1.f3, .string a1.f4] 31 (0, 0))] :: [(b1, .cells #[.int .i64 a0.f0, .int .i64 a0.f1, .slice Aa0_f2 a0.f2.length ca0_f2, .slice Aa0_f3 a0.f3.length ca0_f3] 25 (0, 0))] :: Γ) mo (by kernel_rfl) (fun hS => ?_)
                        refine WA.pure [0, 2, 6, 8] [2, 3, 4, 9, 95, 97, 101, 103] (m := 8) (b' := 325) (L' := [(2, .slice Al2 l2.length cl2), (3, .pointer (some ⟨b1, 0, none⟩)), (4, .pointer (some ⟨b2, 0, none⟩)), (9, .int .i64 y40), (95, .pointer (some ⟨b1, 3, none⟩)), (97, .int .i64 y40), (101, .slice Al2 l2.length cl2), (103, .pointer (some ⟨b1, 0, none⟩))]) (by kernel_rfl) (NoPanic.then (NoPanic.block (NoPanic.then (NoPanic.then (NoPanic.block (NoPanic.then (NoPanic.then (NoPanic.body)))))))) Under.refl hS (by kernel_rfl) ?_
                        refine WA.tellD [] (i := 1) (m := 7) (b' := 327) (by kernel_rfl) (NoPanic.then (NoPanic.block (NoPanic.then (NoPanic.then (NoPanic.block (NoPanic.then (NoPanic.then (NoPanic.body)))))))) Under.refl hS (by kernel_rfl) (op := .load 23 (.tmp 95)) (ty := 23) (d := some 96) (g := none) (by kernel_rfl) (by kernel_rfl) (by kernel_rfl) (Tells.load_box (i := 1) (b := b1) (o := 3) (agg := false) (by rfl) ag23 (by kernel_rfl) (fun _ => rfl) (Nat.le_of_ble_eq_true rfl) (v := .slice Aa0_f3 a0.f3.length ca0_f3) (by kernel_rfl)) ?_
                        by_cases hb44 : 0 ≤ y40 ∧ y40 < (a0.f3.length : Int)
                        case neg => rw [if_neg hb44] at h; cases h
                        rw [if_pos hb44] at h
                        refine WA.tellD [] (i := 3) (m := 6) (b' := 335) (by kernel_rfl) (NoPanic.then (NoPanic.block (NoPanic.then (NoPanic.then (NoPanic.block (NoPanic.then (NoPanic.then (NoPanic.body)))))))) Under.refl hS (by kernel_rfl) (op := .indexAddr 23 (.tmp 96) (.tmp 97)) (ty := 0) (d := some 98) (g := none) (by kernel_rfl) (by kernel_rfl) (by kernel_rfl) (Tells.indexAddr (A := Aa0_f3) (n := a0.f3.length) (c := ca0_f3) (k := .i64) (j := y40) (by kernel_rfl) (by kernel_rfl) (Ha0_f3.isSome hb44.1 hb44.2) hb44.1 hb44.2 sl23) ?_
                        refine WA.tellDE [] (i := 4) (m := 5) (b' := 351) (by kernel_rfl) (NoPanic.then (NoPanic.block (NoPanic.then (NoPanic.then (NoPanic.block (NoPanic.then (NoPanic.then (NoPanic.body)))))))) Under.refl hS (by kernel_rfl) (op := .load 25 (.tmp 98)) (ty := 25) (d := some 99) (g := none) (by kernel_rfl) (by kernel_rfl) (by kernel_rfl) (Ha0_f3.load (agg := true) hb44.1 hb44.2 z25 ag25 (fun h => by cases h) (by kernel_rfl)) ?_
                        rintro _ hrel
                        obtain ⟨_, _, rfl, rfl, ⟨_, _, rfl, rfl, ⟨_, _, rfl, ⟨Ae45, ce45, rfl, He45⟩, ⟨Ae46, ce46, rfl, He46⟩⟩⟩⟩ := k25_out hrel
                        replace He45 : Rd kStr G Ae45 ce45 ((a0.f3.getD y40.toNat z25).f2) := He45
                        replace He46 : Rd k25 G Ae46 ce46 ((a0.f3.getD y40.toNat z25).f3) := He46
                        refine WA.tellD [] (i := 5) (m := 4) (b' := 383) (by kernel_rfl) (NoPanic.then (NoPanic.block (NoPanic.then (NoPanic.then (NoPanic.block (NoPanic.then (NoPanic.then (NoPanic.body)))))))) Under.refl hS (by kernel_rfl) (op := .load 31 (.tmp 4)) (ty := 31) (d := some 100) (g := none) (by kernel_rfl) (by kernel_rfl) (by kernel_rfl) (Tells.load_box (i := 0) (b := b2) (o := 0) (agg := true) (by rfl) ag31 (by kernel_rfl) (fun h => by cases h) (Nat.le_of_ble_eq_true rfl) (v := .agg #[.int .i64 a1.f0, .int .i64 a1.f1, .int .i64 a1.f2, .int .i64 a1.f3, .string a1.f4]) (by kernel_rfl)) ?_
                        refine WA.tellD [] (i := 9) (m := 3) (b' := 895) (by kernel_rfl) (NoPanic.then (NoPanic.block (NoPanic.then (NoPanic.then (NoPanic.block (NoPanic.then (NoPanic.then (NoPanic.body)))))))) Under.refl hS (by kernel_rfl) (op := .load 3 (.tmp 103)) (ty := 3) (d := some 104) (g := none) (by kernel_rfl) (by kernel_rfl) (by kernel_rfl) (Tells.load_box (i := 1) (b := b1) (o := 0) (agg := false) (by rfl) ag3 (by kernel_rfl) (fun _ => rfl) (Nat.le_of_ble_eq_true rfl) (v := .int .i64 a0.f0) (by kernel_rfl)) ?_
                        refine WA.pure [10] [2, 3, 4, 9, 99, 100, 101, 105] (m := 2) (b' := 1919) (L' := [(2, .slice Al2 l2.length cl2), (3, .pointer (some ⟨b1, 0, none⟩)), (4, .pointer (some ⟨b2, 0, none⟩)), (9, .int .i64 y40), (99, .agg #[.int .i64 ((a0.f3.getD y40.toNat z25).f0), .int .i64 ((a0.f3.getD y40.toNat z25).f1), .slice Ae45 ((a0.f3.getD y40.toNat z25).f2).length ce45, .slice Ae46 ((a0.f3.getD y40.toNat z25).f3).length ce46]), (100, .agg #[.int .i64 a1.f0, .int .i64 a1.f1, .int .i64 a1.f2, .int .i64 a1.f3, .string a1.f4]), (101, .slice Al2 l2.length cl2), (105, .bool (a0.f0 == 7))]) (by kernel_rfl) (NoPanic.then (NoPanic.block (NoPanic.then (NoPanic.then (NoPanic.block (NoPanic.then (NoPanic.then (NoPanic.body)))))))) Under.refl hS (by kernel_rfl) ?_
                        rw [Option.bind_eq_some_iff] at h
                        obtain ⟨t47, ht48, h⟩ := h
                        refine WA.op (i := 7) (m := 1) (b' := 2047) (by kernel_rfl) hS (by kernel_rfl) (op := .call { callee := (.value (.func 30)), args := #[(.tmp 99), (.tmp 100), (.tmp 101)], argTypes := #[25, 31, 32] }) (ty := 4) (d := some 102) (g := none) (by kernel_rfl) (by kernel_rfl) (by kernel_rfl) (Does.call (f := 30) (args := [.agg #[.int .i64 ((a0.f3.getD y40.toNat z25).f0), .int .i64 ((a0.f3.getD y40.toNat z25).f1), .slice Ae45 ((a0.f3.getD y40.toNat z25).f2).length ce45, .slice Ae46 ((a0.f3.getD y40.toNat z25).f3).length ce46], .agg #[.int .i64 a1.f0, .int .i64 a1.f1, .int .i64 a1.f2, .int .i64 a1.f3, .string a1.f4], .slice Al2 l2.length cl2]) (by kernel_rfl) (fun W hI => (ih (a0.f3.getD y40.toNat z25) a1 l2 Ae45 ce45 He45 Ae46 ce46 He46 Al2 cl2 Hl2 t47 ht48 hI))) ?_
                        rintro _ _ _ ⟨rfl, rfl, rfl⟩
                        refine ⟨_, _, Under.refl, Under.refl, ?_⟩
                        refine WA.pure [11] [2, 3, 4, 9, 106] (m := 0) (b' := 4095) (L' := [(2, .slice Al2 l2.length cl2), (3, .pointer (some ⟨b1, 0, none⟩)), (4, .pointer (some ⟨b2, 0, none⟩)), (9, .int .i64 y40), (106, .bool (!(t47 == (a0.f0 == 7))))]) (by kernel_rfl) (NoPanic.then (NoPanic.block (NoPanic.then (NoPanic.then (NoPanic.block (NoPanic.then (NoPanic.then (NoPanic.body)))))))) Under.refl hS (by kernel_rfl) ?_
                        refine WA.done hS (by kernel_rfl) ?_
                        refine QP.pick [2, 3, 4, 9, 106] ?_
                        refine QP.next ?_
                        refine WP.cond (b := (!(t47 == (a0.f0 == 7)))) (by kernel_rfl) (fun hc => ?_) (fun hc => ?_)
                        · replace hc := hc
                          rw [if_pos hc] at h
                          have hc51 := hc
                          clear hc
                          refine WP.seqR ?_
                          refine WL.pure 0 1 [107] (L' := [(107, .pointer (some ⟨b1, 0, none⟩))]) (by kernel_rfl) (by decide) ?_
                          refine WL.tell (op := .load 3 (.tmp 107)) (ty := 3) (d := some 108) (g := none) (by kernel_rfl) (by kernel_rfl) (by kernel_rfl) (Tells.load_box (i := 1) (b := b1) (o := 0) (agg := false) (by rfl) ag3 (by kernel_rfl) (fun _ => rfl) (Nat.le_of_ble_eq_true rfl) (v := .int .i64 a0.f0) (by kernel_rfl)) ?_
                          refine WL.restQ 2 [6] (L' := [(6, .bool (a0.f0 == 8))]) (by kernel_rfl) ?_
                          refine WP.dropAt 1 ?_
                          refine WP.dropAt 0 ?_
                          refine WP.ret ?_
                          refine QP.blockR ?_
                          refine QP.thenR ?_
                          refine QP.thenR ?_
                          refine QP.blockR ?_
                          refine QP.thenR ?_
                          refine QP.thenR ?_
                          obtain rfl := Option.some.inj h
                          obtain rfl := Option.some.inj (show some _ = some _ from hk39)
                          exact QP.returned [6] [.bool (a0.f0 == 8)] _ (by kernel_rfl) (by kernel_rfl) (by kernel_rfl) (fun W hI => ⟨_, _, _, rfl, ⟨rfl, rfl, rfl⟩, hI⟩)
                        · replace hc := (Bool.eq_false_iff.1 hc)
                          rw [if_neg hc] at h
                          have hc51 := hc
                          clear hc
                          refine WP.skip ?_
                          refine QP.blockN ?_
                          refine QP.next ?_
                          refine WP.pick [2, 3, 4, 9] ?_
                          refine WP.regionP [2, 3, 4, 9] (L' := [(2, .slice Al2 l2.length cl2), (3, .pointer (some ⟨b1, 0, none⟩)), (4, .pointer (some ⟨b2, 0, none⟩)), (9, .int .i64 (IntKind.i64.wrap (y40 + 1)))]) (by kernel_rfl) ?_
                          refine QP.front (i := 1) rfl ?_
                          refine QP.front (i := 1) rfl ?_
                          refine QP.pick [2, 3, 4, 9] ?_
                          exact QP.meet ⟨kn42, Nat.lt_succ_self _, (IntKind.i64.wrap (y40 + 1)), h, rfl, rfl, rfl⟩
                      · replace hc := of_decide_eq_false hc
                        rw [if_neg hc] at h
                        have hc43 := hc
                        clear hc
                        refine WP.exit ?_
                        refine QP.thenE ?_
                        refine QP.thenE ?_
                        refine QP.blockE ?_
                        refine QP.dropAt 0 ?_
                        refine QP.pick [3] ?_
                        exact QP.meet ⟨_, Option.some.inj h, rfl, rfl, rfl⟩
                  · rintro _ _ _ ⟨s38, rfl, rfl, rfl, rfl⟩
                    clear h
                    replace h := hk39
                    dsimp only at h
                    refine QP.next ?_
                    refine WP.pick [3] ?_
                    refine WP.seqR ?_
                    refine WL.pure 0 1 [110] (L' := [(110, .pointer (some ⟨b1, 0, none⟩))]) (by kernel_rfl) (by decide) ?_
                    refine WL.tell (op := .load 3 (.tmp 110)) (ty := 3) (d := some 111) (g := none) (by kernel_rfl) (by kernel_rfl) (by kernel_rfl) (Tells.load_box (i := 0) (b := b1) (o := 0) (agg := false) (by rfl) ag3 (by kernel_rfl) (fun _ => rfl) (Nat.le_of_ble_eq_true rfl) (v := .int .i64 a0.f0) (by kernel_rfl)) ?_
                    refine WL.restQ 2 [6] (L' := [(6, .bool (a0.f0 == 7))]) (by kernel_rfl) ?_
                    refine WP.dropAt 0 ?_
                    refine WP.ret ?_
                    obtain rfl := Option.some.inj h
                    exact QP.returned [6] [.bool (a0.f0 == 7)] _ (by kernel_rfl) (by kernel_rfl) (by kernel_rfl) (fun W hI => ⟨_, _, _, rfl, ⟨rfl, rfl, rfl⟩, hI⟩)
    · replace hc := ne_of_beq_false hc
      rw [if_neg hc] at h
      have hc3 := hc
      clear hc
      refine WP.regionP [2, 3, 4, 11, 12] (L' := [(2, .slice Al2 l2.length cl2), (3, .pointer (some ⟨b1, 0, none⟩)), (4, .pointer (some ⟨b2, 0, none⟩)), (11, .int .i64 a0.f0), (12, .bool (a0.f0 == 3))]) (by kernel_rfl) ?_
      refine QP.next ?_
      refine WP.pick [2, 3, 4, 11, 12] ?_
      refine WP.cond (b := (a0.f0 == 3)) (by kernel_rfl) (fun hc => ?_) (fun hc => ?_)
      · replace hc := eq_of_beq hc
        rw [if_pos hc] at h
        have hc52 := hc
        clear hc
        refine WP.seqR ?_
        refine WL.pure 0 2 [15, 16] (L' := [(15, .slice Al2 l2.length cl2), (16, .pointer (some ⟨b1, 2, none⟩))]) (by kernel_rfl) (by decide) ?_
        refine WL.tell (op := .load 22 (.tmp 16)) (ty := 22) (d := some 17) (g := none) (by kernel_rfl) (by kernel_rfl) (by kernel_rfl) (Tells.load_box (i := 1) (b := b1) (o := 2) (agg := false) (by rfl) ag22 (by kernel_rfl) (fun _ => rfl) (Nat.le_of_ble_eq_true rfl) (v := .slice Aa0_f2 a0.f2.length ca0_f2) (by kernel_rfl)) ?_
        rw [Option.bind_eq_some_iff] at h
        obtain ⟨t53, ht54, h⟩ := h
        refine WL.op (op := .call { callee := (.value (.func 15)), args := #[(.tmp 15), (.tmp 17)], argTypes := #[32, 22] }) (ty := 4) (d := some 18) (g := none) (by kernel_rfl) (by kernel_rfl) (by kernel_rfl) (Does.call (f := 15) (args := [.slice Al2 l2.length cl2, .slice Aa0_f2 a0.f2.length ca0_f2]) (by kernel_rfl) (fun W hI => (grapevineref15_Phrase_calls kf l2 a0.f2 Al2 cl2 Hl2 Aa0_f2 ca0_f2 Ha0_f2 t53 ht54 hI))) ?_
        rintro _ _ _ ⟨rfl, rfl, rfl⟩
        refine WL.restQ 4 [6] (L' := [(6, .bool t53)]) (by kernel_rfl) ?_
        refine WP.dropAt 1 ?_
        refine WP.dropAt 0 ?_
        refine WP.ret ?_
        refine QP.blockR ?_
        refine QP.thenR ?_
        obtain rfl := Option.some.inj h
        exact QP.returned [6] [.bool t53] _ (by kernel_rfl) (by kernel_rfl) (by kernel_rfl) (fun W hI => ⟨_, _, _, rfl, ⟨rfl, rfl, rfl⟩, hI⟩)
      · replace hc := ne_of_beq_false hc
        rw [if_neg hc] at h
        have hc52 := hc
        clear hc
        refine WP.seqP [2, 3, 4, 11, 19] (L' := [(2, .slice Al2 l2.length cl2), (3, .pointer (some ⟨b1, 0, none⟩)), (4, .pointer (some ⟨b2, 0, none⟩)), (11, .int .i64 a0.f0), (19, .bool (a0.f0 == 2))]) (by kernel_rfl) ?_
        refine WP.cond (b := (a0.f0 == 2)) (by kernel_rfl) (fun hc => ?_) (fun hc => ?_)
        · replace hc := eq_of_beq hc
          rw [if_pos hc] at h
          have hc57 := hc
          clear hc
          refine WP.seq ?_
          refine WP.seqP [2, 3, 7] (L' := [(2, .slice Al2 l2.length cl2), (3, .pointer (some ⟨b1, 0, none⟩)), (7, .int .i64 0)]) (by kernel_rfl) ?_
          refine WP.dropAt 0 ?_
          rw [Option.bind_eq_some_iff] at h
          obtain ⟨os58, h, hk59⟩ := h
          refine WP.cutQ (fun L' G' Γ' => ∃ s58 : Unit, Sum.inr s58 = os58 ∧ L' = [] ∧ G = G' ∧ Γ = Γ') ?_ ?_
          · skip
            refine WP.block ?_
            refine WP.pick [2, 3, 7] ?_
            refine WP.loopF (fun kn61 L' G' Γ' => ∃ (y60 : Int), grapevineref15_holds_l2 a0 l2 kn61 y60 = some os58 ∧ L' = [(2, .slice Al2 l2.length cl2), (3, .pointer (some ⟨b1, 0, none⟩)), (7, .int .i64 y60)] ∧ G = G' ∧ [(b1, .cells #[.int .i64 a0.f0, .int .i64 a0.f1, .slice Aa0_f2 a0.f2.length ca0_f2, .slice Aa0_f3 a0.f3.length ca0_f3] 25 (0, 0))] :: Γ = Γ') ?_ kf ⟨0, h, rfl, rfl, rfl⟩
            clear h
            rintro kn62 _ _ _ ⟨y60, h, rfl, rfl, rfl⟩
            cases kn62 with
            | zero => exact absurd h (by simp [grapevineref15_holds_l2])
            | succ kn62 =>
              simp only [grapevineref15_holds_l2] at h
              refine WP.seq ?_
              refine WP.seqP [2, 3, 7, 24] (L' := [(2, .slice Al2 l2.length cl2), (3, .pointer (some ⟨b1, 0, none⟩)), (7, .int .i64 y60), (24, .bool (decide (y60 < (l2.length : Int))))]) (by kernel_rfl) ?_
              refine WP.cond (b := decide (y60 < (l2.length : Int))) (by kernel_rfl) (fun hc => ?_) (fun hc => ?_)
              · replace hc := of_decide_eq_true hc
                rw [if_pos hc] at h
                have hc63 := hc
                clear hc
                refine WP.skip ?_
                refine QP.next ?_
                refine WP.pick [2, 3, 7] ?_
                refine WP.seq ?_
                refine WP.block ?_
                refine WP.seqR ?_
                refine WL.pure 0 1 [2, 3, 7, 27] (L' := [(2, .slice Al2 l2.length cl2), (3, .pointer (some ⟨b1, 0, none⟩)), (7, .int .i64 y60), (27, .pointer (some ⟨b1, 2, none⟩))]) (by kernel_rfl) (by decide) ?_
                refine WL.tell (op := .load 22 (.tmp 27)) (ty := 22) (d := some 28) (g := none) (by kernel_rfl) (by kernel_rfl) (by kernel_rfl) (Tells.load_box (i := 0) (b := b1) (o := 2) (agg := false) (by rfl) ag22 (by kernel_rfl) (fun _ => rfl) (Nat.le_of_ble_eq_true rfl) (v := .slice Aa0_f2 a0.f2.length ca0_f2) (by kernel_rfl)) ?_
                by_cases hb64 : 0 ≤ (0 : Int) ∧ (0 : Int) < (a0.f2.length : Int)
                case neg => rw [if_neg hb64] at h; cases h
                rw [if_pos hb64] at h
                refine WL.tell (op := .indexAddr 22 (.tmp 28) (.const (.int .i64 0))) (ty := 0) (d := some 29) (g := none) (by kernel_rfl) (by kernel_rfl) (by kernel_rfl) (Tells.indexAddr (A := Aa0_f2) (n := a0.f2.length) (c := ca0_f2) (k := .i64) (j := 0) (by kernel_rfl) (by kernel_rfl) (Ha0_f2.isSome hb64.1 hb64.2) hb64.1 hb64.2 sl22) ?_
                refine WL.tellE (op := .load 9 (.tmp 29)) (ty := 9) (d := some 30) (g := none) (by kernel_rfl) (by kernel_rfl) (by kernel_rfl) (Ha0_f2.load (agg := false) hb64.1 hb64.2 (⟨#[]⟩ : ByteArray) ag9 (fun _ => rfl) (by kernel_rfl)) ?_
                rintro _ rfl
                refine WL.restQ 4 [2, 3, 7, 8] (L' := [(2, .slice Al2 l2.length cl2), (3, .pointer (some ⟨b1, 0, none⟩)), (7, .int .i64 y60), (8, .int .i64 ((a0.f2.getD (0 : Int).toNat (⟨#[]⟩ : ByteArray)).size : Int))]) (by kernel_rfl) ?_
                obtain ⟨v65, hv66, h⟩ := Option.bind_eq_some_iff.1 h
                replace hv66 := Option.some.inj hv66
                refine WP.reput 8 (v := .int .i64 ((a0.f2.getD (0 : Int).toNat (⟨#[]⟩ : ByteArray)).size : Int)) (v' := .int .i64 v65) (by kernel_rfl) (by subst hv66; rfl) ?_
                refine WP.pick [2, 3, 7, 8] ?_
                rw [Option.bind_eq_some_iff] at h
                obtain ⟨os67, h, hk68⟩ := h
                refine WP.cut (fun L' G' Γ' => ∃ s67 : Bool, s67 = os67 ∧ L' = [(2, .slice Al2 l2.length cl2), (3, .pointer (some ⟨b1, 0, none⟩)), (7, .int .i64 y60), (53, .bool s67)] ∧ G = G' ∧ [(b1, .cells #[.int .i64 a0.f0, .int .i64 a0.f1, .slice Aa0_f2 a0.f2.length ca0_f2, .slice Aa0_f3 a0.f3.length ca0_f3] 25 (0, 0))] :: Γ = Γ') ?_ ?_
                · clear hk68
                  skip
                  refine WP.any (N := 22) (S := [⟨some 32, [2], []⟩, ⟨some 33, [7], []⟩, ⟨some 34, [32, 33], [0, 1]⟩, ⟨some 35, [34], [2]⟩, ⟨some 36, [35], [3]⟩, ⟨some 37, [36], [4]⟩, ⟨some 38, [8], []⟩, ⟨some 39, [37, 38], [5, 6]⟩, ⟨some 40, [39], [7]⟩, ⟨some 41, [2, 40], [8]⟩, ⟨some 42, [7, 40], [8]⟩, ⟨some 43, [40, 41, 42], [8, 9, 10]⟩, ⟨some 44, [40, 43], [8, 11]⟩, ⟨some 45, [40, 44], [8, 12]⟩, ⟨some 46, [8, 40], [8]⟩, ⟨some 47, [40, 45, 46], [8, 13, 14]⟩, ⟨some 48, [3, 40], [8]⟩, ⟨some 49, [40, 48], [8, 16]⟩, ⟨some 50, [40, 49], [8, 17]⟩, ⟨some 51, [40, 50], [8, 18]⟩, ⟨some 52, [40, 47, 51], [8, 15, 19]⟩, ⟨some 53, [40, 52], [8, 20]⟩]) (kw := 22) (G0 := G) (Γ0 := [(b1, .cells #[.int .i64 a0.f0, .int .i64 a0.f1, .slice Aa0_f2 a0.f2.length ca0_f2, .slice Aa0_f3 a0.f3.length ca0_f3] 25 (0, 0))] :: Γ) mo (by kernel_rfl) (fun hS => ?_)
                  refine WA.pure [0, 1, 6] [2, 3, 7, 8, 32, 33, 38] (m := 19) (b' := 67) (L' := [(2, .slice Al2 l2.length cl2), (3, .pointer (some ⟨b1, 0, none⟩)), (7, .int .i64 y60), (8, .int .i64 v65), (32, .slice Al2 l2.length cl2), (33, .int .i64 y60), (38, .int .i64 v65)]) (by kernel_rfl) (NoPanic.then (NoPanic.block (NoPanic.then (NoPanic.then (NoPanic.block (NoPanic.then (NoPanic.then (NoPanic.block (NoPanic.then (NoPanic.body)))))))))) Under.refl hS (by kernel_rfl) ?_
                  by_cases hb69 : 0 ≤ y60 ∧ y60 < (l2.length : Int)
                  case neg => rw [if_neg hb69] at h; cases h
                  rw [if_pos hb69] at h
                  refine WA.tellD [] (i := 2) (m := 18) (b' := 71) (by kernel_rfl) (NoPanic.then (NoPanic.block (NoPanic.then (NoPanic.then (NoPanic.block (NoPanic.then (NoPanic.then (NoPanic.block (NoPanic.then (NoPanic.body)))))))))) Under.refl hS (by kernel_rfl) (op := .indexAddr 32 (.tmp 32) (.tmp 33)) (ty := 0) (d := some 34) (g := none) (by kernel_rfl) (by kernel_rfl) (by kernel_rfl) (Tells.indexAddr (A := Al2) (n := l2.length) (c := cl2) (k := .i64) (j := y60) (by kernel_rfl) (by kernel_rfl) (Hl2.isSome hb69.1 hb69.2) hb69.1 hb69.2 sl32) ?_
                  refine WA.tellD [] (i := 3) (m := 17) (b' := 79) (by kernel_rfl) (NoPanic.then (NoPanic.block (NoPanic.then (NoPanic.then (NoPanic.block (NoPanic.then (NoPanic.then (NoPanic.block (NoPanic.then (NoPanic.body)))))))))) Under.refl hS (by kernel_rfl) (op := .fieldAddr 45 (.tmp 34) 0) (ty := 0) (d := some 35) (g := none) (by kernel_rfl) (by kernel_rfl) (by kernel_rfl) (Tells.fieldElem (m := y60.toNat * 2) (A := Al2) (by kernel_rfl) (Hl2.isSome hb69.1 hb69.2) fi45_0) ?_
                  refine WA.tellDE [] (i := 4) (m := 16) (b' := 95) (by kernel_rfl) (NoPanic.then (NoPanic.block (NoPanic.then (NoPanic.then (NoPanic.block (NoPanic.then (NoPanic.then (NoPanic.block (NoPanic.then (NoPanic.body)))))))))) Under.refl hS (by kernel_rfl) (op := .load 9 (.tmp 35)) (ty := 9) (d := some 36) (g := none) (by kernel_rfl) (by kernel_rfl) (by kernel_rfl) (Hl2.loadF (agg := false) (off := 0) hb69.1 hb69.2 z45 ag9 (fun _ => rfl) (by decide) (by kernel_rfl)) ?_
                  rintro _ rfl
                  refine WA.pure [5, 7, 8] [2, 3, 7, 8, 40] (m := 13) (b' := 511) (L' := [(2, .slice Al2 l2.length cl2), (3, .pointer (some ⟨b1, 0, none⟩)), (7, .int .i64 y60), (8, .int .i64 v65), (40, .bool (decide ((((l2.getD y60.toNat z45).f0).size : Int) ≥ v65)))]) (by kernel_rfl) (NoPanic.then (NoPanic.block (NoPanic.then (NoPanic.then (NoPanic.block (NoPanic.then (NoPanic.then (NoPanic.block (NoPanic.then (NoPanic.body)))))))))) Under.refl hS (by kernel_rfl) ?_
                  refine WA.split 40 (b := decide ((((l2.getD y60.toNat z45).f0).size : Int) ≥ v65)) (by kernel_rfl) (fun hc => ?_) (fun hc => ?_)
                  · replace hc := of_decide_eq_true hc
                    rw [if_pos hc] at h
                    have hc70 := hc
                    clear hc
                    refine WA.pure [9, 10, 14, 16] [2, 3, 7, 40, 41, 42, 46, 48] (m := 9) (b' := 83967) (L' := [(2, .slice Al2 l2.length cl2), (3, .pointer (some ⟨b1, 0, none⟩)), (7, .int .i64 y60), (40, .bool true), (41, .slice Al2 l2.length cl2), (42, .int .i64 y60), (46, .int .i64 v65), (48, .pointer (some ⟨b1, 2, none⟩))]) (by kernel_rfl) (NoPanic.then (NoPanic.block (NoPanic.then (NoPanic.then (NoPanic.block (NoPanic.then (NoPanic.then (NoPanic.block (NoPanic.then (NoPanic.body)))))))))) Under.refl hS (by kernel_rfl) ?_
                    by_cases hb71 : 0 ≤ y60 ∧ y60 < (l2.length : Int)
                    case neg => rw [if_neg hb71] at h; cases h
                    rw [if_pos hb71] at h
                    refine WA.tellD [] (i := 11) (m := 8) (b' := 86015) (by kernel_rfl) (NoPanic.then (NoPanic.block (NoPanic.then (NoPanic.then (NoPanic.block (NoPanic.then (NoPanic.then (NoPanic.block (NoPanic.then (NoPanic.body)))))))))) Under.refl hS (by kernel_rfl) (op := .indexAddr 32 (.tmp 41) (.tmp 42)) (ty := 0) (d := some 43) (g := some (8, true)) (by kernel_rfl) (by kernel_rfl) (by kernel_rfl) (Tells.indexAddr (A := Al2) (n := l2.length) (c := cl2) (k := .i64) (j := y60) (by kernel_rfl) (by kernel_rfl) (Hl2.isSome hb71.1 hb71.2) hb71.1 hb71.2 sl32) ?_
                    refine WA.tellD [] (i := 12) (m := 7) (b' := 90111) (by kernel_rfl) (NoPanic.then (NoPanic.block (NoPanic.then (NoPanic.then (NoPanic.block (NoPanic.then (NoPanic.then (NoPanic.block (NoPanic.then (NoPanic.body)))))))))) Under.refl hS (by kernel_rfl) (op := .fieldAddr 45 (.tmp 43) 0) (ty := 0) (d := some 44) (g := some (8, true)) (by kernel_rfl) (by kernel_rfl) (by kernel_rfl) (Tells.fieldElem (m := y60.toNat * 2) (A := Al2) (by kernel_rfl) (Hl2.isSome hb71.1 hb71.2) fi45_0) ?_
                    refine WA.tellDE [] (i := 13) (m := 6) (b' := 98303) (by kernel_rfl) (NoPanic.then (NoPanic.block (NoPanic.then (NoPanic.then (NoPanic.block (NoPanic.then (NoPanic.then (NoPanic.block (NoPanic.then (NoPanic.body)))))))))) Under.refl hS (by kernel_rfl) (op := .load 9 (.tmp 44)) (ty := 9) (d := some 45) (g := some (8, true)) (by kernel_rfl) (by kernel_rfl) (by kernel_rfl) (Hl2.loadF (agg := false) (off := 0) hb71.1 hb71.2 z45 ag9 (fun _ => rfl) (by decide) (by kernel_rfl)) ?_
                    rintro _ rfl
                    by_cases hb72 : 0 ≤ (0 : Int) ∧ (0 : Int) ≤ v65 ∧ v65 ≤ (((l2.getD y60.toNat z45).f0).size : Int)
                    case neg => rw [if_neg hb72] at h; cases h
                    rw [if_pos hb72] at h
                    refine WA.tellD [] (i := 15) (m := 5) (b' := 131071) (by kernel_rfl) (NoPanic.then (NoPanic.block (NoPanic.then (NoPanic.then (NoPanic.block (NoPanic.then (NoPanic.then (NoPanic.block (NoPanic.then (NoPanic.body)))))))))) Under.refl hS (by kernel_rfl) (op := .slice 9 (.tmp 45) none (some (.tmp 46)) none) (ty := 9) (d := some 47) (g := some (8, true)) (by kernel_rfl) (by kernel_rfl) (by kernel_rfl) (Tells.strPart (s := ((l2.getD y60.toNat z45).f0)) (l := 0) (h := v65) (by kernel_rfl) rfl ⟨.i64, by kernel_rfl⟩ hb72.1 hb72.2.1 hb72.2.2 st9) ?_
                    refine WA.tellD [] (i := 17) (m := 4) (b' := 262143) (by kernel_rfl) (NoPanic.then (NoPanic.block (NoPanic.then (NoPanic.then (NoPanic.block (NoPanic.then (NoPanic.then (NoPanic.block (NoPanic.then (NoPanic.body)))))))))) Under.refl hS (by kernel_rfl) (op := .load 22 (.tmp 48)) (ty := 22) (d := some 49) (g := some (8, true)) (by kernel_rfl) (by kernel_rfl) (by kernel_rfl) (Tells.load_box (i := 0) (b := b1) (o := 2) (agg := false) (by rfl) ag22 (by kernel_rfl) (fun _ => rfl) (Nat.le_of_ble_eq_true rfl) (v := .slice Aa0_f2 a0.f2.length ca0_f2) (by kernel_rfl)) ?_
                    by_cases hb73 : 0 ≤ (0 : Int) ∧ (0 : Int) < (a0.f2.length : Int)
                    case neg => rw [if_neg hb73] at h; cases h
                    rw [if_pos hb73] at h
                    refine WA.tellD [] (i := 18) (m := 3) (b' := 524287) (by kernel_rfl) (NoPanic.then (NoPanic.block (NoPanic.then (NoPanic.then (NoPanic.block (NoPanic.then (NoPanic.then (NoPanic.block (NoPanic.then (NoPanic.body)))))))))) Under.refl hS (by kernel_rfl) (op := .indexAddr 22 (.tmp 49) (.const (.int .i64 0))) (ty := 0) (d := some 50) (g := some (8, true)) (by kernel_rfl) (by kernel_rfl) (by kernel_rfl) (Tells.indexAddr (A := Aa0_f2) (n := a0.f2.length) (c := ca0_f2) (k := .i64) (j := 0) (by kernel_rfl) (by kernel_rfl) (Ha0_f2.isSome hb73.1 hb73.2) hb73.1 hb73.2 sl22) ?_
                    refine WA.tellDE [] (i := 19) (m := 2) (b' := 1048575) (by kernel_rfl) (NoPanic.then (NoPanic.block (NoPanic.then (NoPanic.then (NoPanic.block (NoPanic.then (NoPanic.then (NoPanic.block (NoPanic.then (NoPanic.body)))))))))) Under.refl hS (by kernel_rfl) (op := .load 9 (.tmp 50)) (ty := 9) (d := some 51) (g := some (8, true)) (by kernel_rfl) (by kernel_rfl) (by kernel_rfl) (Ha0_f2.load (agg := false) hb73.1 hb73.2 (⟨#[]⟩ : ByteArray) ag9 (fun _ => rfl) (by kernel_rfl)) ?_
                    rintro _ rfl
                    refine WA.pure [20, 21] [2, 3, 7, 53] (m := 0) (b' := 4194303) (L' := [(2, .slice Al2 l2.length cl2), (3, .pointer (some ⟨b1, 0, none⟩)), (7, .int .i64 y60), (53, .bool ((((l2.getD y60.toNat z45).f0).extract (0 : Int).toNat v65.toNat).toList == (a0.f2.getD (0 : Int).toNat (⟨#[]⟩ : ByteArray)).toList))]) (by kernel_rfl) (NoPanic.then (NoPanic.block (NoPanic.then (NoPanic.then (NoPanic.block (NoPanic.then (NoPanic.then (NoPanic.block (NoPanic.then (NoPanic.body)))))))))) Under.refl hS (by kernel_rfl) ?_
                    refine WA.done hS (by kernel_rfl) ?_
                    refine QP.pick [2, 3, 7, 53] ?_
                    refine QP.pick [2, 3, 7, 53] ?_
                    exact QP.meet ⟨_, Option.some.inj h, rfl, rfl, rfl⟩
                  · replace hc := of_decide_eq_false hc
                    rw [if_neg hc] at h
                    have hc70 := hc
                    clear hc
                    refine WA.pure [9, 10, 11, 12, 13, 14, 15, 16, 17, 18, 19, 20, 21] [2, 3, 7, 53] (m := 0) (b' := 4194303) (L' := [(2, .slice Al2 l2.length cl2), (3, .pointer (some ⟨b1, 0, none⟩)), (7, .int .i64 y60), (53, .bool false)]) (by kernel_rfl) (NoPanic.then (NoPanic.block (NoPanic.then (NoPanic.then (NoPanic.block (NoPanic.then (NoPanic.then (NoPanic.block (NoPanic.then (NoPanic.body)))))))))) Under.refl hS (by kernel_rfl) ?_
                    refine WA.done hS (by kernel_rfl) ?_
                    refine QP.pick [2, 3, 7, 53] ?_
                    refine QP.pick [2, 3, 7, 53] ?_
                    exact QP.meet ⟨_, Option.some.inj h, rfl, rfl, rfl⟩
                · rintro _ _ _ ⟨s67, rfl, rfl, rfl, rfl⟩
                  clear h
                  replace h := hk68
                  refine WP.cond (b := s67) (by kernel_rfl) (fun hc => ?_) (fun hc => ?_)
                  · replace hc := hc
                    rw [if_pos hc] at h
                    have hc74 := hc
                    clear hc
                    refine WP.seqP [6] (L' := [(6, .bool true)]) (by kernel_rfl) ?_
                    refine WP.dropAt 0 ?_
                    refine WP.ret ?_
                    refine QP.blockR ?_
                    refine QP.thenR ?_
                    refine QP.thenR ?_
                    refine QP.blockR ?_
                    refine QP.thenR ?_
                    refine QP.thenR ?_
                    refine QP.blockR ?_
                    refine QP.thenR ?_
                    obtain rfl := Option.some.inj h
                    obtain rfl := Option.some.inj (show some _ = some _ from hk59)
                    exact QP.returned [6] [.bool true] _ (by kernel_rfl) (by kernel_rfl) (by kernel_rfl) (fun W hI => ⟨_, _, _, rfl, ⟨rfl, rfl, rfl⟩, hI⟩)
                  · replace hc := (Bool.eq_false_iff.1 hc)
                    rw [if_neg hc] at h
                    have hc74 := hc
                    clear hc
                    refine WP.skip ?_
                    refine QP.blockN ?_
                    refine QP.next ?_
                    refine WP.pick [2, 3, 7] ?_
                    refine WP.regionP [2, 3, 7] (L' := [(2, .slice Al2 l2.length cl2), (3, .pointer (some ⟨b1, 0, none⟩)), (7, .int .i64 (IntKind.i64.wrap (y60 + 1)))]) (by kernel_rfl) ?_
                    refine QP.pick [2, 3, 7] ?_
                    exact QP.meet ⟨kn62, Nat.lt_succ_self _, (IntKind.i64.wrap (y60 + 1)), h, rfl, rfl, rfl⟩
              · replace hc := of_decide_eq_false hc
                rw [if_neg hc] at h
                have hc63 := hc
                clear hc
                refine WP.exit ?_
                refine QP.thenE ?_
                refine QP.thenE ?_
                refine QP.blockE ?_
                refine QP.dropAt 0 ?_
                refine QP.pick [] ?_
                exact QP.meet ⟨_, Option.some.inj h, rfl, rfl, rfl⟩
          · rintro _ _ _ ⟨s58, rfl, rfl, rfl, rfl⟩
            clear h
            replace h := hk59
            dsimp only at h
            refine QP.next ?_
            refine WP.pick [] ?_
            refine WP.seqP [6] (L' := [(6, .bool false)]) (by kernel_rfl) ?_
            refine WP.ret ?_
            refine QP.blockR ?_
            refine QP.thenR ?_
            obtain rfl := Option.some.inj h
            exact QP.returned [6] [.bool false] _ (by kernel_rfl) (by kernel_rfl) (by kernel_rfl) (fun W hI => ⟨_, _, _, rfl, ⟨rfl, rfl, rfl⟩, hI⟩)
        · replace hc := ne_of_beq_false hc
          rw [if_neg hc] at h
          have hc57 := hc
          clear hc
          refine WP.seqP [2, 3, 4, 11, 54] (L' := [(2, .slice Al2 l2.length cl2), (3, .pointer (some ⟨b1, 0, none⟩)), (4, .pointer (some ⟨b2, 0, none⟩)), (11, .int .i64 a0.f0), (54, .bool (a0.f0 == 4))]) (by kernel_rfl) ?_
          refine WP.cond (b := (a0.f0 == 4)) (by kernel_rfl) (fun hc => ?_) (fun hc => ?_)
          · replace hc := eq_of_beq hc
            rw [if_pos hc] at h
            have hc75 := hc
            clear hc
            refine WP.seqR ?_
            refine WL.pure 0 2 [3, 57] (L' := [(3, .pointer (some ⟨b1, 0, none⟩)), (57, .pointer (some ⟨b2, 0, none⟩))]) (by kernel_rfl) (by decide) ?_
            refine WL.tell (op := .load 3 (.tmp 57)) (ty := 3) (d := some 58) (g := none) (by kernel_rfl) (by kernel_rfl) (by kernel_rfl) (Tells.load_box (i := 0) (b := b2) (o := 0) (agg := false) (by rfl) ag3 (by kernel_rfl) (fun _ => rfl) (Nat.le_of_ble_eq_true rfl) (v := .int .i64 a1.f0) (by kernel_rfl)) ?_
            refine WL.pure 3 4 [58, 59] (L' := [(58, .int .i64 a1.f0), (59, .pointer (some ⟨b1, 1, none⟩))]) (by kernel_rfl) (by decide) ?_
            refine WL.tell (op := .load 3 (.tmp 59)) (ty := 3) (d := some 60) (g := none) (by kernel_rfl) (by kernel_rfl) (by kernel_rfl) (Tells.load_box (i := 1) (b := b1) (o := 1) (agg := false) (by rfl) ag3 (by kernel_rfl) (fun _ => rfl) (Nat.le_of_ble_eq_true rfl) (v := .int .i64 a0.f1) (by kernel_rfl)) ?_
            refine WL.restQ 5 [6] (L' := [(6, .bool (a1.f0 == a0.f1))]) (by kernel_rfl) ?_
            refine WP.dropAt 1 ?_
            refine WP.dropAt 0 ?_
            refine WP.ret ?_
            refine QP.blockR ?_
            refine QP.thenR ?_
            obtain rfl := Option.some.inj h
            exact QP.returned [6] [.bool (a1.f0 == a0.f1)] _ (by kernel_rfl) (by kernel_rfl) (by kernel_rfl) (fun W hI => ⟨_, _, _, rfl, ⟨rfl, rfl, rfl⟩, hI⟩)
          · replace hc := ne_of_beq_false hc
            rw [if_neg hc] at h
            have hc75 := hc
            clear hc
            refine WP.seqP [2, 3, 4, 11, 62] (L' := [(2, .slice Al2 l2.length cl2), (3, .pointer (some ⟨b1, 0, none⟩)), (4, .pointer (some ⟨b2, 0, none⟩)), (11, .int .i64 a0.f0), (62, .bool (a0.f0 == 5))]) (by kernel_rfl) ?_
            refine WP.cond (b := (a0.f0 == 5)) (by kernel_rfl) (fun hc => ?_) (fun hc => ?_)
            · replace hc := eq_of_beq hc
              rw [if_pos hc] at h
              have hc76 := hc
              clear hc
              refine WP.seqR ?_
              refine WL.pure 0 2 [3, 65] (L' := [(3, .pointer (some ⟨b1, 0, none⟩)), (65, .pointer (some ⟨b2, 2, none⟩))]) (by kernel_rfl) (by decide) ?_
              refine WL.tell (op := .load 3 (.tmp 65)) (ty := 3) (d := some 66) (g := none) (by kernel_rfl) (by kernel_rfl) (by kernel_rfl) (Tells.load_box (i := 0) (b := b2) (o := 2) (agg := false) (by rfl) ag3 (by kernel_rfl) (fun _ => rfl) (Nat.le_of_ble_eq_true rfl) (v := .int .i64 a1.f2) (by kernel_rfl)) ?_
              refine WL.pure 3 4 [66, 67] (L' := [(66, .int .i64 a1.f2), (67, .pointer (some ⟨b1, 1, none⟩))]) (by kernel_rfl) (by decide) ?_
              refine WL.tell (op := .load 3 (.tmp 67)) (ty := 3) (d := some 68) (g := none) (by kernel_rfl) (by kernel_rfl) (by kernel_rfl) (Tells.load_box (i := 1) (b := b1) (o := 1) (agg := false) (by rfl) ag3 (by kernel_rfl) (fun _ => rfl) (Nat.le_of_ble_eq_true rfl) (v := .int .i64 a0.f1) (by kernel_rfl)) ?_
              refine WL.restQ 5 [6] (L' := [(6, .bool (decide (a1.f2 ≥ a0.f1)))]) (by kernel_rfl) ?_
              refine WP.dropAt 1 ?_
              refine WP.dropAt 0 ?_
              refine WP.ret ?_
              refine QP.blockR ?_
              refine QP.thenR ?_
              obtain rfl := Option.some.inj h
              exact QP.returned [6] [.bool (decide (a1.f2 ≥ a0.f1))] _ (by kernel_rfl) (by kernel_rfl) (by kernel_rfl) (fun W hI => ⟨_, _, _, rfl, ⟨rfl, rfl, rfl⟩, hI⟩)
            · replace hc := ne_of_beq_false hc
              rw [if_neg hc] at h
              have hc76 := hc
              clear hc
              refine WP.seqP [2, 3, 4, 11, 70] (L' := [(2, .slice Al2 l2.length cl2), (3, .pointer (some ⟨b1, 0, none⟩)), (4, .pointer (some ⟨b2, 0, none⟩)), (11, .int .i64 a0.f0), (70, .bool (a0.f0 == 6))]) (by kernel_rfl) ?_
              refine WP.cond (b := (a0.f0 == 6)) (by kernel_rfl) (fun hc => ?_) (fun hc => ?_)
              · replace hc := eq_of_beq hc
                rw [if_pos hc] at h
                have hc77 := hc
                clear hc
                refine WP.seqR ?_
                refine WL.pure 0 2 [3, 73] (L' := [(3, .pointer (some ⟨b1, 0, none⟩)), (73, .pointer (some ⟨b2, 2, none⟩))]) (by kernel_rfl) (by decide) ?_
                refine WL.tell (op := .load 3 (.tmp 73)) (ty := 3) (d := some 74) (g := none) (by kernel_rfl) (by kernel_rfl) (by kernel_rfl) (Tells.load_box (i := 0) (b := b2) (o := 2) (agg := false) (by rfl) ag3 (by kernel_rfl) (fun _ => rfl) (Nat.le_of_ble_eq_true rfl) (v := .int .i64 a1.f2) (by kernel_rfl)) ?_
                refine WL.pure 3 4 [74, 75] (L' := [(74, .int .i64 a1.f2), (75, .pointer (some ⟨b1, 1, none⟩))]) (by kernel_rfl) (by decide) ?_
                refine WL.tell (op := .load 3 (.tmp 75)) (ty := 3) (d := some 76) (g := none) (by kernel_rfl) (by kernel_rfl) (by kernel_rfl) (Tells.load_box (i := 1) (b := b1) (o := 1) (agg := false) (by rfl) ag3 (by kernel_rfl) (fun _ => rfl) (Nat.le_of_ble_eq_true rfl) (v := .int .i64 a0.f1) (by kernel_rfl)) ?_
                refine WL.restQ 5 [6] (L' := [(6, .bool (decide (a1.f2 ≤ a0.f1)))]) (by kernel_rfl) ?_
                refine WP.dropAt 1 ?_
                refine WP.dropAt 0 ?_
                refine WP.ret ?_
                refine QP.blockR ?_
                refine QP.thenR ?_
                obtain rfl := Option.some.inj h
                exact QP.returned [6] [.bool (decide (a1.f2 ≤ a0.f1))] _ (by kernel_rfl) (by kernel_rfl) (by kernel_rfl) (fun W hI => ⟨_, _, _, rfl, ⟨rfl, rfl, rfl⟩, hI⟩)
              · replace hc := ne_of_beq_false hc
                rw [if_neg hc] at h
                have hc77 := hc
                clear hc
                refine WP.seqP [2, 3, 4, 78] (L' := [(2, .slice Al2 l2.length cl2), (3, .pointer (some ⟨b1, 0, none⟩)), (4, .pointer (some ⟨b2, 0, none⟩)), (78, .bool (a0.f0 == 9))]) (by kernel_rfl) ?_
                refine WP.cond (b := (a0.f0 == 9)) (by kernel_rfl) (fun hc => ?_) (fun hc => ?_)
                · replace hc := eq_of_beq hc
                  rw [if_pos hc] at h
                  have hc78 := hc
                  clear hc
                  refine WP.seq ?_
                  refine WP.any (N := 9) (S := [⟨some 80, [3], []⟩, ⟨some 81, [80], [0]⟩, ⟨some 82, [81], [1]⟩, ⟨some 83, [82], [2]⟩, ⟨some 84, [4], []⟩, ⟨some 85, [2], []⟩, ⟨some 86, [83, 84, 85], [3, 4, 5]⟩, ⟨some 87, [86], [6]⟩, ⟨some 6, [87], [0, 1, 2, 3, 4, 5, 6, 7]⟩]) (kw := 9) (G0 := G) (Γ0 := [(b2, .cells #[.int .i64 a1.f0, .int .i64 a1.f1, .int .i64 a1.f2, .int .i64 a1.f3, .string a1.f4] 31 (0, 0))] :: [(b1, .cells #[.int .i64 a0.f0, .int .i64 a0.f1, .slice Aa0_f2 a0.f2.length ca0_f2, .slice Aa0_f3 a0.f3.length ca0_f3] 25 (0, 0))] :: Γ) mo (by kernel_rfl) (fun hS => ?_)
                  refine WA.pure [0, 5] [4, 80, 85] (m := 7) (b' := 33) (L' := [(4, .pointer (some ⟨b2, 0, none⟩)), (80, .pointer (some ⟨b1, 3, none⟩)), (85, .slice Al2 l2.length cl2)]) (by kernel_rfl) (NoPanic.then (NoPanic.block (NoPanic.then (NoPanic.body)))) Under.refl hS (by kernel_rfl) ?_
                  refine WA.tellD [] (i := 1) (m := 6) (b' := 35) (by kernel_rfl) (NoPanic.then (NoPanic.block (NoPanic.then (NoPanic.body)))) Under.refl hS (by kernel_rfl) (op := .load 23 (.tmp 80)) (ty := 23) (d := some 81) (g := none) (by kernel_rfl) (by kernel_rfl) (by kernel_rfl) (Tells.load_box (i := 1) (b := b1) (o := 3) (agg := false) (by rfl) ag23 (by kernel_rfl) (fun _ => rfl) (Nat.le_of_ble_eq_true rfl) (v := .slice Aa0_f3 a0.f3.length ca0_f3) (by kernel_rfl)) ?_
                  by_cases hb79 : 0 ≤ (0 : Int) ∧ (0 : Int) < (a0.f3.length : Int)
                  case neg => rw [if_neg hb79] at h; cases h
                  rw [if_pos hb79] at h
                  refine WA.tellD [] (i := 2) (m := 5) (b' := 39) (by kernel_rfl) (NoPanic.then (NoPanic.block (NoPanic.then (NoPanic.body)))) Under.refl hS (by kernel_rfl) (op := .indexAddr 23 (.tmp 81) (.const (.int .i64 0))) (ty := 0) (d := some 82) (g := none) (by kernel_rfl) (by kernel_rfl) (by kernel_rfl) (Tells.indexAddr (A := Aa0_f3) (n := a0.f3.length) (c := ca0_f3) (k := .i64) (j := 0) (by kernel_rfl) (by kernel_rfl) (Ha0_f3.isSome hb79.1 hb79.2) hb79.1 hb79.2 sl23) ?_
                  refine WA.tellDE [] (i := 3) (m := 4) (b' := 47) (by kernel_rfl) (NoPanic.then (NoPanic.block (NoPanic.then (NoPanic.body)))) Under.refl hS (by kernel_rfl) (op := .load 25 (.tmp 82)) (ty := 25) (d := some 83) (g := none) (by kernel_rfl) (by kernel_rfl) (by kernel_rfl) (Ha0_f3.load (agg := true) hb79.1 hb79.2 z25 ag25 (fun h => by cases h) (by kernel_rfl)) ?_
                  rintro _ hrel
                  obtain ⟨_, _, rfl, rfl, ⟨_, _, rfl, rfl, ⟨_, _, rfl, ⟨Ae80, ce80, rfl, He80⟩, ⟨Ae81, ce81, rfl, He81⟩⟩⟩⟩ := k25_out hrel
                  replace He80 : Rd kStr G Ae80 ce80 ((a0.f3.getD (0 : Int).toNat z25).f2) := He80
                  replace He81 : Rd k25 G Ae81 ce81 ((a0.f3.getD (0 : Int).toNat z25).f3) := He81
                  refine WA.tellD [] (i := 4) (m := 3) (b' := 63) (by kernel_rfl) (NoPanic.then (NoPanic.block (NoPanic.then (NoPanic.body)))) Under.refl hS (by kernel_rfl) (op := .load 31 (.tmp 4)) (ty := 31) (d := some 84) (g := none) (by kernel_rfl) (by kernel_rfl) (by kernel_rfl) (Tells.load_box (i := 0) (b := b2) (o := 0) (agg := true) (by rfl) ag31 (by kernel_rfl) (fun h => by cases h) (Nat.le_of_ble_eq_true rfl) (v := .agg #[.int .i64 a1.f0, .int .i64 a1.f1, .int .i64 a1.f2, .int .i64 a1.f3, .string a1.f4]) (by kernel_rfl)) ?_
                  rw [Option.bind_eq_some_iff] at h
                  obtain ⟨t82, ht83, h⟩ := h
                  refine WA.op (i := 6) (m := 2) (b' := 127) (by kernel_rfl) hS (by kernel_rfl) (op := .call { callee := (.value (.func 30)), args := #[(.tmp 83), (.tmp 84), (.tmp 85)], argTypes := #[25, 31, 32] }) (ty := 4) (d := some 86) (g := none) (by kernel_rfl) (by kernel_rfl) (by kernel_rfl) (Does.call (f := 30) (args := [.agg #[.int .i64 ((a0.f3.getD (0 : Int).toNat z25).f0), .int .i64 ((a0.f3.getD (0 : Int).toNat z25).f1), .slice Ae80 ((a0.f3.getD (0 : Int).toNat z25).f2).length ce80, .slice Ae81 ((a0.f3.getD (0 : Int).toNat z25).f3).length ce81], .agg #[.int .i64 a1.f0, .int .i64 a1.f1, .int .i64 a1.f2, .int .i64 a1.f3, .string a1.f4], .slice Al2 l2.length cl2]) (by kernel_rfl) (fun W hI => (ih (a0.f3.getD (0 : Int).toNat z25) a1 l2 Ae80 ce80 He80 Ae81 ce81 He81 Al2 cl2 Hl2 t82 ht83 hI))) ?_
                  rintro _ _ _ ⟨rfl, rfl, rfl⟩
                  refine ⟨_, _, Under.refl, Under.refl, ?_⟩
                  refine WA.pure [7, 8] [6] (m := 0) (b' := 511) (L' := [(6, .bool (!t82))]) (by kernel_rfl) (NoPanic.then (NoPanic.block (NoPanic.then (NoPanic.body)))) Under.refl hS (by kernel_rfl) ?_
                  refine WA.done hS (by kernel_rfl) ?_
                  refine QP.pick [6] ?_
                  refine QP.next ?_
                  refine WP.dropAt 1 ?_
                  refine WP.dropAt 0 ?_
                  refine WP.ret ?_
                  refine QP.blockR ?_
                  refine QP.thenR ?_
                  obtain rfl := Option.some.inj h
                  exact QP.returned [6] [.bool (!t82)] _ (by kernel_rfl) (by kernel_rfl) (by kernel_rfl) (fun W hI => ⟨_, _, _, rfl, ⟨rfl, rfl, rfl⟩, hI⟩)
                · replace hc := ne_of_beq_false hc
                  rw [if_neg hc] at h
                  have hc78 := hc
                  clear hc
                  refine WP.skip ?_
                  refine QP.blockN ?_
                  refine QP.next ?_
                  refine WP.pick [2, 3, 4] ?_
                  refine WP.seq ?_
                  refine WP.seqP [2, 3, 4, 9] (L' := [(2, .slice Al2 l2.length cl2), (3, .pointer (some ⟨b1, 0, none⟩)), (4, .pointer (some ⟨b2, 0, none⟩)), (9, .int .i64 0)]) (by kernel_rfl) ?_
                  rw [Option.bind_eq_some_iff] at h
                  obtain ⟨os86, h, hk87⟩ := h
                  refine WP.cutQ (fun L' G' Γ' => ∃ s86 : Unit, Sum.inr s86 = os86 ∧ L' = [(3, .pointer (some ⟨b1, 0, none⟩))] ∧ G = G' ∧ [(b1, .cells #[.int .i64 a0.f0, .int .i64 a0.f1, .slice Aa0_f2 a0.f2.length ca0_f2, .slice Aa0_f3 a0.f3.length ca0_f3] 25 (0, 0))] :: Γ = Γ') ?_ ?_
                  · skip
                    refine WP.block ?_
                    refine WP.pick [2, 3, 4, 9] ?_
                    refine WP.loopF (fun kn89 L' G' Γ' => ∃ (y88 : Int), grapevineref15_holds_l3 a0 a1 l2 (grapevineref15_holds kf) kn89 y88 = some os86 ∧ L' = [(2, .slice Al2 l2.length cl2), (3, .pointer (some ⟨b1, 0, none⟩)), (4, .pointer (some ⟨b2, 0, none⟩)), (9, .int .i64 y88)] ∧ G = G' ∧ [(b2, .cells #[.int .i64 a1.f0, .int .i64 a1.f1, .int .i64 a1.f2, .int .i64 a1.f3, .string a1.f4] 31 (0, 0))] :: [(b1, .cells #[.int .i64 a0.f0, .int .i64 a0.f1, .slice Aa0_f2 a0.f2.length ca0_f2, .slice Aa0_f3 a0.f3.length ca0_f3] 25 (0, 0))] :: Γ = Γ') ?_ kf ⟨0, h, rfl, rfl, rfl⟩
                    clear h
                    rintro kn90 _ _ _ ⟨y88, h, rfl, rfl, rfl⟩
                    cases kn90 with
                    | zero => exact absurd h (by simp [grapevineref15_holds_l3])
                    | succ kn90 =>
                      simp only [grapevineref15_holds_l3] at h
                      refine WP.seq ?_
                      refine WP.seqR ?_
                      refine WL.pure 0 2 [2, 3, 4, 9, 88, 89] (L' := [(2, .slice Al2 l2.length cl2), (3, .pointer (some ⟨b1, 0, none⟩)), (4, .pointer (some ⟨b2, 0, none⟩)), (9, .int .i64 y88), (88, .int .i64 y88), (89, .pointer (some ⟨b1, 3, none⟩))]) (by kernel_rfl) (by decide) ?_
                      refine WL.tell (op := .load 23 (.tmp 89)) (ty := 23) (d := some 90) (g := none) (by kernel_rfl) (by kernel_rfl) (by kernel_rfl) (Tells.load_box (i := 1) (b := b1) (o := 3) (agg := false) (by rfl) ag23 (by kernel_rfl) (fun _ => rfl) (Nat.le_of_ble_eq_true rfl) (v := .slice Aa0_f3 a0.f3.length ca0_f3) (by kernel_rfl)) ?_
                      refine WL.restQ 3 [2, 3, 4, 9, 92] (L' := [(2, .slice Al2 l2.length cl2), (3, .pointer (some ⟨b1, 0, none⟩)), (4, .pointer (some ⟨b2, 0, none⟩)), (9, .int .i64 y88), (92, .bool (decide (y88 < (a0.f3.length : Int))))]) (by kernel_rfl) ?_
                      refine WP.cond (b := decide (y88 < (a0.f3.length : Int))) (by kernel_rfl) (fun hc => ?_) (fun hc => ?_)
                      · replace hc := of_decide_eq_true hc
                        rw [if_pos hc] at h
                        have hc91 := hc
                        clear hc
                        refine WP.skip ?_
                        refine QP.next ?_
                        refine WP.pick [2, 3, 4, 9] ?_
                        refine WP.seq ?_
                        refine WP.block ?_
                        refine WP.seq ?_
                        refine WP.any (N := 12) (S := [⟨some 95, [3], []⟩, ⟨some 96, [95], [0]⟩, ⟨some 97, [9], []⟩, ⟨some 98, [96, 97], [1, 2]⟩, ⟨some 99, [98], [3]⟩, ⟨some 100, [4], []⟩, ⟨some 101, [2], []⟩, ⟨some 102, [99, 100, 101], [4, 5, 6]⟩, ⟨some 103, [3], []⟩, ⟨some 104, [103], [8]⟩, ⟨some 105, [104], [9]⟩, ⟨some 106, [102, 105], [7, 10]⟩]) (kw := 12) (G0 := G) (Γ0 := [(b2, .cells #[.int .i64 a1.f0, .int .i64 a1.f1, .int .i64 a1.f2, .int .i64 a1.f3, .string a1.f4] 31 (0, 0))] :: [(b1, .cells #[.int .i64 a0.f0, .int .i64 a0.f1, .slice Aa0_f2 a0.f2.length ca0_f2, .slice Aa0_f3 a0.f3.length ca0_f3] 25 (0, 0))] :: Γ) mo (by kernel_rfl) (fun hS => ?_)
                        refine WA.pure [0, 2, 6, 8] [2, 3, 4, 9, 95, 97, 101, 103] (m := 8) (b' := 325) (L' := [(2, .slice Al2 l2.length cl2), (3, .pointer (some ⟨b1, 0, none⟩)), (4, .pointer (some ⟨b2, 0, none⟩)), (9, .int .i64 y88), (95, .pointer (some ⟨b1, 3, none⟩)), (97, .int .i64 y88), (101, .slice Al2 l2.length cl2), (103, .pointer (some ⟨b1, 0, none⟩))]) (by kernel_rfl) (NoPanic.then (NoPanic.block (NoPanic.then (NoPanic.then (NoPanic.block (NoPanic.then (NoPanic.then (NoPanic.body)))))))) Under.refl hS (by kernel_rfl) ?_
                        refine WA.tellD [] (i := 1) (m := 7) (b' := 327) (by kernel_rfl) (NoPanic.then (NoPanic.block (NoPanic.then (NoPanic.then (NoPanic.block (NoPanic.then (NoPanic.then (NoPanic.body)))))))) Under.refl hS (by kernel_rfl) (op := .load 23 (.tmp 95)) (ty := 23) (d := some 96) (g := none) (by kernel_rfl) (by kernel_rfl) (by kernel_rfl) (Tells.load_box (i := 1) (b := b1) (o := 3) (agg := false) (by rfl) ag23 (by kernel_rfl) (fun _ => rfl) (Nat.le_of_ble_eq_true rfl) (v := .slice Aa0_f3 a0.f3.length ca0_f3) (by kernel_rfl)) ?_
                        by_cases hb92 : 0 ≤ y88 ∧ y88 < (a0.f3.length : Int)
                        case neg => rw [if_neg hb92] at h; cases h
                        rw [if_pos hb92] at h
                        refine WA.tellD [] (i := 3) (m := 6) (b' := 335) (by kernel_rfl) (NoPanic.then (NoPanic.block (NoPanic.then (NoPanic.then (NoPanic.block (NoPanic.then (NoPanic.then (NoPanic.body)))))))) Under.refl hS (by kernel_rfl) (op := .indexAddr 23 (.tmp 96) (.tmp 97)) (ty := 0) (d := some 98) (g := none) (by kernel_rfl) (by kernel_rfl) (by kernel_rfl) (Tells.indexAddr (A := Aa0_f3) (n := a0.f3.length) (c := ca0_f3) (k := .i64) (j := y88) (by kernel_rfl) (by kernel_rfl) (Ha0_f3.isSome hb92.1 hb92.2) hb92.1 hb92.2 sl23) ?_
                        refine WA.tellDE [] (i := 4) (m := 5) (b' := 351) (by kernel_rfl) (NoPanic.then (NoPanic.block (NoPanic.then (NoPanic.then (NoPanic.block (NoPanic.then (NoPanic.then (NoPanic.body)))))))) Under.refl hS (by kernel_rfl) (op := .load 25 (.tmp 98)) (ty := 25) (d := some 99) (g := none) (by kernel_rfl) (by kernel_rfl) (by kernel_rfl) (Ha0_f3.load (agg := true) hb92.1 hb92.2 z25 ag25 (fun h => by cases h) (by kernel_rfl)) ?_
                        rintro _ hrel
                        obtain ⟨_, _, rfl, rfl, ⟨_, _, rfl, rfl, ⟨_, _, rfl, ⟨Ae93, ce93, rfl, He93⟩, ⟨Ae94, ce94, rfl, He94⟩⟩⟩⟩ := k25_out hrel
                        replace He93 : Rd kStr G Ae93 ce93 ((a0.f3.getD y88.toNat z25).f2) := He93
                        replace He94 : Rd k25 G Ae94 ce94 ((a0.f3.getD y88.toNat z25).f3) := He94
                        refine WA.tellD [] (i := 5) (m := 4) (b' := 383) (by kernel_rfl) (NoPanic.then (NoPanic.block (NoPanic.then (NoPanic.then (NoPanic.block (NoPanic.then (NoPanic.then (NoPanic.body)))))))) Under.refl hS (by kernel_rfl) (op := .load 31 (.tmp 4)) (ty := 31) (d := some 100) (g := none) (by kernel_rfl) (by kernel_rfl) (by kernel_rfl) (Tells.load_box (i := 0) (b := b2) (o := 0) (agg := true) (by rfl) ag31 (by kernel_rfl) (fun h => by cases h) (Nat.le_of_ble_eq_true rfl) (v := .agg #[.int .i64 a1.f0, .int .i64 a1.f1, .int .i64 a1.f2, .int .i64 a1.f3, .string a1.f4]) (by kernel_rfl)) ?_
                        refine WA.tellD [] (i := 9) (m := 3) (b' := 895) (by kernel_rfl) (NoPanic.then (NoPanic.block (NoPanic.then (NoPanic.then (NoPanic.block (NoPanic.then (NoPanic.then (NoPanic.body)))))))) Under.refl hS (by kernel_rfl) (op := .load 3 (.tmp 103)) (ty := 3) (d := some 104) (g := none) (by kernel_rfl) (by kernel_rfl) (by kernel_rfl) (Tells.load_box (i := 1) (b := b1) (o := 0) (agg := false) (by rfl) ag3 (by kernel_rfl) (fun _ => rfl) (Nat.le_of_ble_eq_true rfl) (v := .int .i64 a0.f0) (by kernel_rfl)) ?_
                        refine WA.pure [10] [2, 3, 4, 9, 99, 100, 101, 105] (m := 2) (b' := 1919) (L' := [(2, .slice Al2 l2.length cl2), (3, .pointer (some ⟨b1, 0, none⟩)), (4, .pointer (some ⟨b2, 0, none⟩)), (9, .int .i64 y88), (99, .agg #[.int .i64 ((a0.f3.getD y88.toNat z25).f0), .int .i64 ((a0.f3.getD y88.toNat z25).f1), .slice Ae93 ((a0.f3.getD y88.toNat z25).f2).length ce93, .slice Ae94 ((a0.f3.getD y88.toNat z25).f3).length ce94]), (100, .agg #[.int .i64 a1.f0, .int .i64 a1.f1, .int .i64 a1.f2, .int .i64 a1.f3, .string a1.f4]), (101, .slice Al2 l2.length cl2), (105, .bool (a0.f0 == 7))]) (by kernel_rfl) (NoPanic.then (NoPanic.block (NoPanic.then (NoPanic.then (NoPanic.block (NoPanic.then (NoPanic.then (NoPanic.body)))))))) Under.refl hS (by kernel_rfl) ?_
                        rw [Option.bind_eq_some_iff] at h
                        obtain ⟨t95, ht96, h⟩ := h
                        refine WA.op (i := 7) (m := 1) (b' := 2047) (by kernel_rfl) hS (by kernel_rfl) (op := .call { callee := (.value (.func 30)), args := #[(.tmp 99), (.tmp 100), (.tmp 101)], argTypes := #[25, 31, 32] }) (ty := 4) (d := some 102) (g := none) (by kernel_rfl) (by kernel_rfl) (by kernel_rfl) (Does.call (f := 30) (args := [.agg #[.int .i64 ((a0.f3.getD y88.toNat z25).f0), .int .i64 ((a0.f3.getD y88.toNat z25).f1), .slice Ae93 ((a0.f3.getD y88.toNat z25).f2).length ce93, .slice Ae94 ((a0.f3.getD y88.toNat z25).f3).length ce94], .agg #[.int .i64 a1.f0, .int .i64 a1.f1, .int .i64 a1.f2, .int .i64 a1.f3, .string a1.f4], .slice Al2 l2.length cl2]) (by kernel_rfl) (fun W hI => (ih (a0.f3.getD y88.toNat z25) a1 l2 Ae93 ce93 He93 Ae94 ce94 He94 Al2 cl2 Hl2 t95 ht96 hI))) ?_
                        rintro _ _ _ ⟨rfl, rfl, rfl⟩
                        refine ⟨_, _, Under.refl, Under.refl, ?_⟩
                        refine WA.pure [11] [2, 3, 4, 9, 106] (m := 0) (b' := 4095) (L' := [(2, .slice Al2 l2.length cl2), (3, .pointer (some ⟨b1, 0, none⟩)), (4, .pointer (some ⟨b2, 0, none⟩)), (9, .int .i64 y88), (106, .bool (!(t95 == (a0.f0 == 7))))]) (by kernel_rfl) (NoPanic.then (NoPanic.block (NoPanic.then (NoPanic.then (NoPanic.block (NoPanic.then (NoPanic.then (NoPanic.body)))))))) Under.refl hS (by kernel_rfl) ?_
                        refine WA.done hS (by kernel_rfl) ?_
                        refine QP.pick [2, 3, 4, 9, 106] ?_
                        refine QP.next ?_
                        refine WP.cond (b := (!(t95 == (a0.f0 == 7)))) (by kernel_rfl) (fun hc => ?_) (fun hc => ?_)
                        · replace hc := hc
                          rw [if_pos hc] at h
                          have hc99 := hc
                          clear hc
                          refine WP.seqR ?_
                          refine WL.pure 0 1 [107] (L' := [(107, .pointer (some ⟨b1, 0, none⟩))]) (by kernel_rfl) (by decide) ?_
                          refine WL.tell (op := .load 3 (.tmp 107)) (ty := 3) (d := some 108) (g := none) (by kernel_rfl) (by kernel_rfl) (by kernel_rfl) (Tells.load_box (i := 1) (b := b1) (o := 0) (agg := false) (by rfl) ag3 (by kernel_rfl) (fun _ => rfl) (Nat.le_of_ble_eq_true rfl) (v := .int .i64 a0.f0) (by kernel_rfl)) ?_
                          refine WL.restQ 2 [6] (L' := [(6, .bool (a0.f0 == 8))]) (by kernel_rfl) ?_
                          refine WP.dropAt 1 ?_
                          refine WP.dropAt 0 ?_
                          refine WP.ret ?_
                          refine QP.blockR ?_
                          refine QP.thenR ?_
                          refine QP.thenR ?_
                          refine QP.blockR ?_
                          refine QP.thenR ?_
                          refine QP.thenR ?_
                          obtain rfl := Option.some.inj h
                          obtain rfl := Option.some.inj (show some _ = some _ from hk87)
                          exact QP.returned [6] [.bool (a0.f0 == 8)] _ (by kernel_rfl) (by kernel_rfl) (by kernel_rfl) (fun W hI => ⟨_, _, _, rfl, ⟨rfl, rfl, rfl⟩, hI⟩)
                        · replace hc := (Bool.eq_false_iff.1 hc)
                          rw [if_neg hc] at h
                          have hc99 := hc
                          clear hc
                          refine WP.skip ?_
                          refine QP.blockN ?_
                          refine QP.next ?_
                          refine WP.pick [2, 3, 4, 9] ?_
                          refine WP.regionP [2, 3, 4, 9] (L' := [(2, .slice Al2 l2.length cl2), (3, .pointer (some ⟨b1, 0, none⟩)), (4, .pointer (some ⟨b2, 0, none⟩)), (9, .int .i64 (IntKind.i64.wrap (y88 + 1)))]) (by kernel_rfl) ?_
                          refine QP.front (i := 1) rfl ?_
                          refine QP.front (i := 1) rfl ?_
                          refine QP.pick [2, 3, 4, 9] ?_
                          exact QP.meet ⟨kn90, Nat.lt_succ_self _, (IntKind.i64.wrap (y88 + 1)), h, rfl, rfl, rfl⟩
                      · replace hc := of_decide_eq_false hc
                        rw [if_neg hc] at h
                        have hc91 := hc
                        clear hc
                        refine WP.exit ?_
                        refine QP.thenE ?_
                        refine QP.thenE ?_
                        refine QP.blockE ?_
                        refine QP.dropAt 0 ?_
                        refine QP.pick [3] ?_
                        exact QP.meet ⟨_, Option.some.inj h, rfl, rfl, rfl⟩
                  · rintro _ _ _ ⟨s86, rfl, rfl, rfl, rfl⟩
                    clear h
                    replace h := hk87
                    dsimp only at h
                    refine QP.next ?_
                    refine WP.pick [3] ?_
                    refine WP.seqR ?_
                    refine WL.pure 0 1 [110] (L' := [(110, .pointer (some ⟨b1, 0, none⟩))]) (by kernel_rfl) (by decide) ?_
                    refine WL.tell (op := .load 3 (.tmp 110)) (ty := 3) (d := some 111) (g := none) (by kernel_rfl) (by kernel_rfl) (by kernel_rfl) (Tells.load_box (i := 0) (b := b1) (o := 0) (agg := false) (by rfl) ag3 (by kernel_rfl) (fun _ => rfl) (Nat.le_of_ble_eq_true rfl) (v := .int .i64 a0.f0) (by kernel_rfl)) ?_
                    refine WL.restQ 2 [6] (L' := [(6, .bool (a0.f0 == 7))]) (by kernel_rfl) ?_
                    refine WP.dropAt 0 ?_
                    refine WP.ret ?_
                    obtain rfl := Option.some.inj h
                    exact QP.returned [6] [.bool (a0.f0 == 7)] _ (by kernel_rfl) (by kernel_rfl) (by kernel_rfl) (fun W hI => ⟨_, _, _, rfl, ⟨rfl, rfl, rfl⟩, hI⟩)
theorem grapevineref15_holds_calls {B : World} {G : GMap} {Γ : List Chunk} {W : World} (k : Nat) (a0 : T25) (a1 : T31) (l2 : List T45) (Aa0_f2 : Option Addr) (ca0_f2 : Nat) (Ha0_f2 : Rd kStr G Aa0_f2 ca0_f2 a0.f2) (Aa0_f3 : Option Addr) (ca0_f3 : Nat) (Ha0_f3 : Rd k25 G Aa0_f3 ca0_f3 a0.f3) (Al2 : Option Addr) (cl2 : Nat) (Hl2 : Rd k45 G Al2 cl2 l2) (r : Bool) (h : grapevineref15_holds k a0 a1 l2 = some r) (hI : Inv B G (Γ) W) :
    Calls Tryd.prog 30 [.agg #[.int .i64 a0.f0, .int .i64 a0.f1, .slice Aa0_f2 a0.f2.length ca0_f2, .slice Aa0_f3 a0.f3.length ca0_f3], .agg #[.int .i64 a1.f0, .int .i64 a1.f1, .int .i64 a1.f2, .int .i64 a1.f3, .string a1.f4], .slice Al2 l2.length cl2].toArray W (Ret B (fun v G' Γ' => v = .bool r ∧ G = G' ∧ Γ = Γ')) := grapevineref15_holds_calls_k k a0 a1 l2 Aa0_f2 ca0_f2 Ha0_f2 Aa0_f3 ca0_f3 Ha0_f3 Al2 cl2 Hl2 r h hI

/-! ### grapevine/grapevineref15.Holds: function 13 -/
def grapevineref15_Holds (k : Nat) (a0 : T25) (a1 : T31) : Option Bool := (((grapevineref14_May k a0).bind fun t5 => (if t5 = true then ((grapevineref4_May a1).bind fun t10 => (if t10 = true then ((grapevineref1_Of k a1.f4).bind fun t15 => ((grapevineref15_holds k a0 a1 t15).bind fun t19 => some t19)) else some false)) else some false)).bind fun s3 => some s3)
set_option maxHeartbeats 4000000 in
theorem grapevineref15_Holds_calls {B : World} {G : GMap} {Γ : List Chunk} {W : World} (HT : Tabs B G) (k : Nat) (a0 : T25) (a1 : T31) (Aa0_f2 : Option Addr) (ca0_f2 : Nat) (Ha0_f2 : Rd kStr G Aa0_f2 ca0_f2 a0.f2) (Aa0_f3 : Option Addr) (ca0_f3 : Nat) (Ha0_f3 : Rd k25 G Aa0_f3 ca0_f3 a0.f3) (r : Bool) (h : grapevineref15_Holds k a0 a1 = some r) (hI : Inv B G (Γ) W) :
    Calls Tryd.prog 13 [.agg #[.int .i64 a0.f0, .int .i64 a0.f1, .slice Aa0_f2 a0.f2.length ca0_f2, .slice Aa0_f3 a0.f3.length ca0_f3], .agg #[.int .i64 a1.f0, .int .i64 a1.f1, .int .i64 a1.f2, .int .i64 a1.f3, .string a1.f4]].toArray W (Ret B (fun v G' Γ' => v = .bool r ∧ G = G' ∧ Γ = Γ')) := by
  refine calls_WP (Γ := Γ) (G := G) (B := B) Tryd.func13 rfl (by kernel_rfl) ?_ hI
  clear hI
  unfold grapevineref15_Holds at h
  refine WP.seqR ?_
  refine WL.op (op := .box 25 (.tmp 0)) (ty := 0) (d := some 2) (g := none) (by kernel_rfl) (by kernel_rfl) (by kernel_rfl) (Does.new (o := .cells #[.int .i64 a0.f0, .int .i64 a0.f1, .slice Aa0_f2 a0.f2.length ca0_f2, .slice Aa0_f3 a0.f3.length ca0_f3] 25 (0, 0)) (v := fun r => .pointer (some ⟨r, 0, none⟩)) (fun r => by kernel_rfl)) ?_
  rintro _ _ _ ⟨b1, rfl, rfl, rfl⟩
  refine WL.op (op := .box 31 (.tmp 1)) (ty := 0) (d := some 3) (g := none) (by kernel_rfl) (by kernel_rfl) (by kernel_rfl) (Does.new (o := .cells #[.int .i64 a1.f0, .int .i64 a1.f1, .int .i64 a1.f2, .int .i64 a1.f3, .string a1.f4] 31 (0, 0)) (v := fun r => .pointer (some ⟨r, 0, none⟩)) (fun r => by kernel_rfl)) ?_
  rintro _ _ _ ⟨b2, rfl, rfl, rfl⟩
  refine WL.restQ 2 [2, 3] (L' := [(2, .pointer (some ⟨b1, 0, none⟩)), (3, .pointer (some ⟨b2, 0, none⟩))]) (by kernel_rfl) ?_
  rw [Option.bind_eq_some_iff] at h
  obtain ⟨os3, h, hk4⟩ := h
  refine WP.cut (fun L' G' Γ' => ∃ s3 : Bool, s3 = os3 ∧ L' = [(4, .bool s3)] ∧ G = G' ∧ Γ = Γ') ?_ ?_
  · clear hk4
    skip
    refine WP.any (N := 15) (S := [⟨some 5, [2], []⟩, ⟨some 6, [5], [0]⟩, ⟨some 7, [6], [1]⟩, ⟨some 8, [3, 7], [2]⟩, ⟨some 9, [7, 8], [2, 3]⟩, ⟨some 10, [7, 9], [2, 4]⟩, ⟨some 11, [10], [4, 5]⟩, ⟨some 12, [2, 11], [6]⟩, ⟨some 13, [3, 11], [6]⟩, ⟨some 14, [3, 11], [6]⟩, ⟨some 15, [11, 14], [6, 9]⟩, ⟨some 16, [11, 15], [6, 10]⟩, ⟨some 17, [11, 12, 13, 16], [6, 7, 8, 11]⟩, ⟨some 18, [11, 17], [6, 12]⟩, ⟨some 4, [18], [0, 1, 2, 3, 4, 5, 6, 7, 8, 9, 10, 11, 12, 13]⟩]) (kw := 15) (G0 := G) (Γ0 := [(b2, .cells #[.int .i64 a1.f0, .int .i64 a1.f1, .int .i64 a1.f2, .int .i64 a1.f3, .string a1.f4] 31 (0, 0))] :: [(b1, .cells #[.int .i64 a0.f0, .int .i64 a0.f1, .slice Aa0_f2 a0.f2.length ca0_f2, .slice Aa0_f3 a0.f3.length ca0_f3] 25 (0, 0))] :: Γ) mo (by kernel_rfl) (fun hS => ?_)
    refine WA.tellD [] (i := 0) (m := 14) (b' := 1) (by kernel_rfl) (NoPanic.then (NoPanic.body)) Under.refl hS (by kernel_rfl) (op := .load 25 (.tmp 2)) (ty := 25) (d := some 5) (g := none) (by kernel_rfl) (by kernel_rfl) (by kernel_rfl) (Tells.load_box (i := 1) (b := b1) (o := 0) (agg := true) (by rfl) ag25 (by kernel_rfl) (fun h => by cases h) (Nat.le_of_ble_eq_true rfl) (v := .agg #[.int .i64 a0.f0, .int .i64 a0.f1, .slice Aa0_f2 a0.f2.length ca0_f2, .slice Aa0_f3 a0.f3.length ca0_f3]) (by kernel_rfl)) ?_
    rw [Option.bind_eq_some_iff] at h
    obtain ⟨t5, ht6, h⟩ := h
    refine WA.op (i := 1) (m := 13) (b' := 3) (by kernel_rfl) hS (by kernel_rfl) (op := .call { callee := (.value (.func 28)), args := #[(.tmp 5)], argTypes := #[25] }) (ty := 4) (d := some 6) (g := none) (by kernel_rfl) (by kernel_rfl) (by kernel_rfl) (Does.call (f := 28) (args := [.agg #[.int .i64 a0.f0, .int .i64 a0.f1, .slice Aa0_f2 a0.f2.length ca0_f2, .slice Aa0_f3 a0.f3.length ca0_f3]]) (by kernel_rfl) (fun W hI => (grapevineref14_May_calls HT k a0 Aa0_f2 ca0_f2 Ha0_f2 Aa0_f3 ca0_f3 Ha0_f3 t5 ht6 hI))) ?_
    rintro _ _ _ ⟨rfl, rfl, rfl⟩
    refine ⟨_, _, Under.refl, Under.refl, ?_⟩
    refine WA.pure [2] [2, 3, 7] (m := 12) (b' := 7) (L' := [(2, .pointer (some ⟨b1, 0, none⟩)), (3, .pointer (some ⟨b2, 0, none⟩)), (7, .bool t5)]) (by kernel_rfl) (NoPanic.then (NoPanic.body)) Under.refl hS (by kernel_rfl) ?_
    refine WA.split 7 (b := t5) (by kernel_rfl) (fun hc => ?_) (fun hc => ?_)
    · replace hc := hc
      rw [if_pos hc] at h
      have hc9 := hc
      clear hc
      refine WA.tellD [] (i := 3) (m := 11) (b' := 15) (by kernel_rfl) (NoPanic.then (NoPanic.body)) Under.refl hS (by kernel_rfl) (op := .load 31 (.tmp 3)) (ty := 31) (d := some 8) (g := some (2, true)) (by kernel_rfl) (by kernel_rfl) (by kernel_rfl) (Tells.load_box (i := 0) (b := b2) (o := 0) (agg := true) (by rfl) ag31 (by kernel_rfl) (fun h => by cases h) (Nat.le_of_ble_eq_true rfl) (v := .agg #[.int .i64 a1.f0, .int .i64 a1.f1, .int .i64 a1.f2, .int .i64 a1.f3, .string a1.f4]) (by kernel_rfl)) ?_
      rw [Option.bind_eq_some_iff] at h
      obtain ⟨t10, ht11, h⟩ := h
      refine WA.op (i := 4) (m := 10) (b' := 31) (by kernel_rfl) hS (by kernel_rfl) (op := .call { callee := (.value (.func 29)), args := #[(.tmp 8)], argTypes := #[31] }) (ty := 4) (d := some 9) (g := some (2, true)) (by kernel_rfl) (by kernel_rfl) (by kernel_rfl) (Does.call (f := 29) (args := [.agg #[.int .i64 a1.f0, .int .i64 a1.f1, .int .i64 a1.f2, .int .i64 a1.f3, .string a1.f4]]) (by kernel_rfl) (fun W hI => (grapevineref4_May_calls HT a1  t10 ht11 hI))) ?_
      rintro _ _ _ ⟨rfl, rfl, rfl⟩
      refine ⟨_, _, Under.refl, Under.refl, ?_⟩
      refine WA.pure [5, 6] [2, 3, 11] (m := 8) (b' := 127) (L' := [(2, .pointer (some ⟨b1, 0, none⟩)), (3, .pointer (some ⟨b2, 0, none⟩)), (11, .bool t10)]) (by kernel_rfl) (NoPanic.then (NoPanic.body)) Under.refl hS (by kernel_rfl) ?_
      refine WA.split 11 (b := t10) (by kernel_rfl) (fun hc => ?_) (fun hc => ?_)
      · replace hc := hc
        rw [if_pos hc] at h
        have hc14 := hc
        clear hc
        refine WA.pure [9] [2, 3, 11, 14] (m := 7) (b' := 639) (L' := [(2, .pointer (some ⟨b1, 0, none⟩)), (3, .pointer (some ⟨b2, 0, none⟩)), (11, .bool true), (14, .pointer (some ⟨b2, 4, none⟩))]) (by kernel_rfl) (NoPanic.then (NoPanic.body)) Under.refl hS (by kernel_rfl) ?_
        refine WA.tellD [] (i := 7) (m := 6) (b' := 767) (by kernel_rfl) (NoPanic.then (NoPanic.body)) Under.refl hS (by kernel_rfl) (op := .load 25 (.tmp 2)) (ty := 25) (d := some 12) (g := some (6, true)) (by kernel_rfl) (by kernel_rfl) (by kernel_rfl) (Tells.load_box (i := 1) (b := b1) (o := 0) (agg := true) (by rfl) ag25 (by kernel_rfl) (fun h => by cases h) (Nat.le_of_ble_eq_true rfl) (v := .agg #[.int .i64 a0.f0, .int .i64 a0.f1, .slice Aa0_f2 a0.f2.length ca0_f2, .slice Aa0_f3 a0.f3.length ca0_f3]) (by kernel_rfl)) ?_
        refine WA.tellD [] (i := 8) (m := 5) (b' := 1023) (by kernel_rfl) (NoPanic.then (NoPanic.body)) Under.refl hS (by kernel_rfl) (op := .load 31 (.tmp 3)) (ty := 31) (d := some 13) (g := some (6, true)) (by kernel_rfl) (by kernel_rfl) (by kernel_rfl) (Tells.load_box (i := 0) (b := b2) (o := 0) (agg := true) (by rfl) ag31 (by kernel_rfl) (fun h => by cases h) (Nat.le_of_ble_eq_true rfl) (v := .agg #[.int .i64 a1.f0, .int .i64 a1.f1, .int .i64 a1.f2, .int .i64 a1.f3, .string a1.f4]) (by kernel_rfl)) ?_
        refine WA.tellD [] (i := 10) (m := 4) (b' := 2047) (by kernel_rfl) (NoPanic.then (NoPanic.body)) Under.refl hS (by kernel_rfl) (op := .load 9 (.tmp 14)) (ty := 9) (d := some 15) (g := some (6, true)) (by kernel_rfl) (by kernel_rfl) (by kernel_rfl) (Tells.load_box (i := 0) (b := b2) (o := 4) (agg := false) (by rfl) ag9 (by kernel_rfl) (fun _ => rfl) (Nat.le_of_ble_eq_true rfl) (v := .string a1.f4) (by kernel_rfl)) ?_
        rw [Option.bind_eq_some_iff] at h
        obtain ⟨t15, ht16, h⟩ := h
        refine WA.op (i := 11) (m := 3) (b' := 4095) (by kernel_rfl) hS (by kernel_rfl) (op := .call { callee := (.value (.func 31)), args := #[(.tmp 15)], argTypes := #[9] }) (ty := 32) (d := some 16) (g := some (6, true)) (by kernel_rfl) (by kernel_rfl) (by kernel_rfl) (Does.call (f := 31) (args := [.string a1.f4]) (by kernel_rfl) (fun W hI => (grapevineref1_Of_calls HT k a1.f4  t15 ht16 hI))) ?_
        rintro _ _ _ ⟨AR17, cR17, CR17, rfl, HR17, rfl, rfl⟩
        refine ⟨_, _, Under.cons (Under.refl), Under.refl, ?_⟩
        rw [Option.bind_eq_some_iff] at h
        obtain ⟨t19, ht20, h⟩ := h
        refine WA.op (i := 12) (m := 2) (b' := 8191) (by kernel_rfl) hS (by kernel_rfl) (op := .call { callee := (.value (.func 30)), args := #[(.tmp 12), (.tmp 13), (.tmp 16)], argTypes := #[25, 31, 32] }) (ty := 4) (d := some 17) (g := some (6, true)) (by kernel_rfl) (by kernel_rfl) (by kernel_rfl) (Does.call (Φ := fun v' G' Γ' => v' = .bool t19 ∧ G = G' ∧ CR17 :: [(b2, .cells #[.int .i64 a1.f0, .int .i64 a1.f1, .int .i64 a1.f2, .int .i64 a1.f3, .string a1.f4] 31 (0, 0))] :: [(b1, .cells #[.int .i64 a0.f0, .int .i64 a0.f1, .slice Aa0_f2 a0.f2.length ca0_f2, .slice Aa0_f3 a0.f3.length ca0_f3] 25 (0, 0))] :: Γ = Γ') (f := 30) (args := [.agg #[.int .i64 a0.f0, .int .i64 a0.f1, .slice Aa0_f2 a0.f2.length ca0_f2, .slice Aa0_f3 a0.f3.length ca0_f3], .agg #[.int .i64 a1.f0, .int .i64 a1.f1, .int .i64 a1.f2, .int .i64 a1.f3, .string a1.f4], .slice AR17 t15.length cR17]) (by kernel_rfl) (fun W hI => (Calls.lendN (Φ := fun v' N => v' = .bool t19 ∧ N = []) (H := []) (i := 0) rfl hI (fun _ e l23 nl23 hI => by subst e; exact (((grapevineref15_holds_calls k a0 a1 t15 Aa0_f2 ca0_f2 (Ha0_f2.mono l23) Aa0_f3 ca0_f3 (Ha0_f3.mono l23) AR17 cR17 (HR17.rdN l23 nl23) t19 ht20 hI)).mono fun _ _ hr => by obtain ⟨_, _, _, rfl, hd, hI⟩ := hr; obtain ⟨rfl, rfl, rfl⟩ := hd; exact ⟨_, _, _, rfl, ⟨[], ⟨rfl, rfl⟩, rfl, rfl⟩, hI⟩))).mono fun _ _ hr => by obtain ⟨_, _, _, rfl, ⟨_, hd, rfl, rfl⟩, hI⟩ := hr; obtain ⟨rfl, rfl⟩ := hd; exact ⟨_, _, _, rfl, ⟨rfl, rfl, rfl⟩, hI⟩)) ?_
        rintro _ _ _ ⟨rfl, rfl, rfl⟩
        refine ⟨_, _, Under.refl, Under.refl, ?_⟩
        refine WA.pure [13, 14] [4] (m := 0) (b' := 32767) (L' := [(4, .bool t19)]) (by kernel_rfl) (NoPanic.then (NoPanic.body)) Under.refl hS (by kernel_rfl) ?_
        refine WA.done hS (by kernel_rfl) ?_
        refine QP.pick [4] ?_
        refine QP.dropAt 2 ?_
        refine QP.dropAt 1 ?_
        refine QP.dropAt 0 ?_
        refine QP.pick [4] ?_
        exact QP.meet ⟨_, Option.some.inj h, rfl, rfl, rfl⟩
      · replace hc := (Bool.eq_false_iff.1 hc)
        rw [if_neg hc] at h
        have hc14 := hc
        clear hc
        refine WA.pure [7, 8, 9, 10, 11, 12, 13, 14] [4] (m := 0) (b' := 32767) (L' := [(4, .bool false)]) (by kernel_rfl) (NoPanic.then (NoPanic.body)) Under.refl hS (by kernel_rfl) ?_
        refine WA.done hS (by kernel_rfl) ?_
        refine QP.pick [4] ?_
        refine QP.dropAt 1 ?_
        refine QP.dropAt 0 ?_
        refine QP.pick [4] ?_
        exact QP.meet ⟨_, Option.some.inj h, rfl, rfl, rfl⟩
    · replace hc := (Bool.eq_false_iff.1 hc)
      rw [if_neg hc] at h
      have hc9 := hc
      clear hc
      refine WA.pure [3, 4, 5, 6, 7, 8, 9, 10, 11, 12, 13, 14] [4] (m := 0) (b' := 32767) (L' := [(4, .bool false)]) (by kernel_rfl) (NoPanic.then (NoPanic.body)) Under.refl hS (by kernel_rfl) ?_
      refine WA.done hS (by kernel_rfl) ?_
      refine QP.pick [4] ?_
      refine QP.dropAt 1 ?_
      refine QP.dropAt 0 ?_
      refine QP.pick [4] ?_
      exact QP.meet ⟨_, Option.some.inj h, rfl, rfl, rfl⟩
  · rintro _ _ _ ⟨s3, rfl, rfl, rfl, rfl⟩
    clear h
    replace h := hk4
    refine WP.ret ?_
    obtain rfl := Option.some.inj h
    exact QP.returned [4] [.bool s3] _ (by kernel_rfl) (by kernel_rfl) (by kernel_rfl) (fun W hI => ⟨_, _, _, rfl, ⟨rfl, rfl, rfl⟩, hI⟩)
end Go.Proofs.YtbphlohiealbeaaDoor.Gf
