/- Walks of Go functions: what each tells, as a plain Lean function, and that the Go code comes to it. Written by gg.py of this repo. -/
import Derived.Test.YtjmhhmljldjmjaaDoorT
import Derived.Test.YtjmhhmljldjmjaaDoorF0
namespace Go.Proofs.YtjmhhmljldjmjaaDoor.Gf
open Go Go.Gg
set_option maxRecDepth 100000
set_option linter.unusedVariables false
set_option linter.unusedSimpArgs false

/-! ### grapevine/grapevineref4.MayKey: function 60 -/
def grapevineref4_MayKey (a0 : T23) : Option Bool := ((if a0.f0 ≥ 0 then (if a0.f0 < 8 then (if a0.f1 ≥ 1 then some (decide (a0.f1 ≤ 1023)) else some false) else some false) else some false).bind fun s2 => some s2)
set_option maxHeartbeats 4000000 in
theorem grapevineref4_MayKey_calls {B : World} {G : GMap} {Γ : List Chunk} {W : World} (a0 : T23) (r : Bool) (h : grapevineref4_MayKey a0 = some r) (hI : Inv B G (Γ) W) :
    Calls Tryd.prog 60 [.agg #[.int .i64 a0.f0, .int .i64 a0.f1]].toArray W (Ret B (fun v G' Γ' => v = .bool r ∧ G = G' ∧ Γ = Γ')) := by
  refine calls_WP (Γ := Γ) (G := G) (B := B) Tryd.func60 rfl (by kernel_rfl) ?_ hI
  clear hI
  unfold grapevineref4_MayKey at h
  refine WP.seqR ?_
  refine WL.op (op := .box 23 (.tmp 0)) (ty := 0) (d := some 1) (g := none) (by kernel_rfl) (by kernel_rfl) (by kernel_rfl) (Does.new (o := .cells #[.int .i64 a0.f0, .int .i64 a0.f1] 23 (0, 0)) (v := fun r => .pointer (some ⟨r, 0, none⟩)) (fun r => by kernel_rfl)) ?_
  rintro _ _ _ ⟨b1, rfl, rfl, rfl⟩
  refine WL.restQ 1 [1] (L' := [(1, .pointer (some ⟨b1, 0, none⟩))]) (by kernel_rfl) ?_
  rw [Option.bind_eq_some_iff] at h
  obtain ⟨os2, h, hk3⟩ := h
  refine WP.cut (fun L' G' Γ' => ∃ s2 : Bool, s2 = os2 ∧ L' = [(2, .bool s2)] ∧ G = G' ∧ Γ = Γ') ?_ ?_
  · clear hk3
    refine WP.region ?_
    refine WL.pure 0 1 [1, 3] (L' := [(1, .pointer (some ⟨b1, 0, none⟩)), (3, .pointer (some ⟨b1, 0, none⟩))]) (by kernel_rfl) (by decide) ?_
    refine WL.tell (op := .load 3 (.tmp 3)) (ty := 3) (d := some 4) (g := none) (by kernel_rfl) (by kernel_rfl) (by kernel_rfl) (Tells.load_box (i := 0) (b := b1) (o := 0) (agg := false) (by rfl) ag3 (by kernel_rfl) (fun _ => rfl) (Nat.le_of_ble_eq_true rfl) (v := .int .i64 a0.f0) (by kernel_rfl)) ?_
    refine WL.pure 2 4 [1, 6] (L' := [(1, .pointer (some ⟨b1, 0, none⟩)), (6, .bool (decide (a0.f0 ≥ 0)))]) (by kernel_rfl) (by decide) ?_
    refine WL.split 6 (b := decide (a0.f0 ≥ 0)) (by kernel_rfl) (fun hc => ?_) (fun hc => ?_)
    · replace hc := of_decide_eq_true hc
      rw [if_pos hc] at h
      have hc4 := hc
      clear hc
      refine WL.pure 4 5 [1, 6, 7] (L' := [(1, .pointer (some ⟨b1, 0, none⟩)), (6, .bool true), (7, .pointer (some ⟨b1, 0, none⟩))]) (by kernel_rfl) (by decide) ?_
      refine WL.tell (op := .load 3 (.tmp 7)) (ty := 3) (d := some 8) (g := some (3, true)) (by kernel_rfl) (by kernel_rfl) (by kernel_rfl) (Tells.load_box (i := 0) (b := b1) (o := 0) (agg := false) (by rfl) ag3 (by kernel_rfl) (fun _ => rfl) (Nat.le_of_ble_eq_true rfl) (v := .int .i64 a0.f0) (by kernel_rfl)) ?_
      refine WL.pure 6 9 [1, 11] (L' := [(1, .pointer (some ⟨b1, 0, none⟩)), (11, .bool (decide (a0.f0 < 8)))]) (by kernel_rfl) (by decide) ?_
      refine WL.split 11 (b := decide (a0.f0 < 8)) (by kernel_rfl) (fun hc => ?_) (fun hc => ?_)
      · replace hc := of_decide_eq_true hc
        rw [if_pos hc] at h
        have hc5 := hc
        clear hc
        refine WL.pure 9 10 [1, 11, 12] (L' := [(1, .pointer (some ⟨b1, 0, none⟩)), (11, .bool true), (12, .pointer (some ⟨b1, 1, none⟩))]) (by kernel_rfl) (by decide) ?_
        refine WL.tell (op := .load 3 (.tmp 12)) (ty := 3) (d := some 13) (g := some (8, true)) (by kernel_rfl) (by kernel_rfl) (by kernel_rfl) (Tells.load_box (i := 0) (b := b1) (o := 1) (agg := false) (by rfl) ag3 (by kernel_rfl) (fun _ => rfl) (Nat.le_of_ble_eq_true rfl) (v := .int .i64 a0.f1) (by kernel_rfl)) ?_
        refine WL.pure 11 14 [1, 16] (L' := [(1, .pointer (some ⟨b1, 0, none⟩)), (16, .bool (decide (a0.f1 ≥ 1)))]) (by kernel_rfl) (by decide) ?_
        refine WL.split 16 (b := decide (a0.f1 ≥ 1)) (by kernel_rfl) (fun hc => ?_) (fun hc => ?_)
        · replace hc := of_decide_eq_true hc
          rw [if_pos hc] at h
          have hc6 := hc
          clear hc
          refine WL.pure 14 15 [16, 17] (L' := [(16, .bool true), (17, .pointer (some ⟨b1, 1, none⟩))]) (by kernel_rfl) (by decide) ?_
          refine WL.tell (op := .load 3 (.tmp 17)) (ty := 3) (d := some 18) (g := some (13, true)) (by kernel_rfl) (by kernel_rfl) (by kernel_rfl) (Tells.load_box (i := 0) (b := b1) (o := 1) (agg := false) (by rfl) ag3 (by kernel_rfl) (fun _ => rfl) (Nat.le_of_ble_eq_true rfl) (v := .int .i64 a0.f1) (by kernel_rfl)) ?_
          refine WL.rest 16 [2] (L' := [(2, .bool (decide (a0.f1 ≤ 1023)))]) (by kernel_rfl) ?_
          refine QP.dropAt 0 ?_
          refine QP.pick [2] ?_
          exact QP.meet ⟨_, Option.some.inj h, rfl, rfl, rfl⟩
        · replace hc := of_decide_eq_false hc
          rw [if_neg hc] at h
          have hc6 := hc
          clear hc
          refine WL.rest 14 [2] (L' := [(2, .bool false)]) (by kernel_rfl) ?_
          refine QP.dropAt 0 ?_
          refine QP.pick [2] ?_
          exact QP.meet ⟨_, Option.some.inj h, rfl, rfl, rfl⟩
      · replace hc := of_decide_eq_false hc
        rw [if_neg hc] at h
        have hc5 := hc
        clear hc
        refine WL.rest 9 [2] (L' := [(2, .bool false)]) (by kernel_rfl) ?_
        refine QP.dropAt 0 ?_
        refine QP.pick [2] ?_
        exact QP.meet ⟨_, Option.some.inj h, rfl, rfl, rfl⟩
    · replace hc := of_decide_eq_false hc
      rw [if_neg hc] at h
      have hc4 := hc
      clear hc
      refine WL.rest 4 [2] (L' := [(2, .bool false)]) (by kernel_rfl) ?_
      refine QP.dropAt 0 ?_
      refine QP.pick [2] ?_
      exact QP.meet ⟨_, Option.some.inj h, rfl, rfl, rfl⟩
  · rintro _ _ _ ⟨s2, rfl, rfl, rfl, rfl⟩
    clear h
    replace h := hk3
    refine WP.ret ?_
    obtain rfl := Option.some.inj h
    exact QP.returned [2] [.bool s2] _ (by kernel_rfl) (by kernel_rfl) (by kernel_rfl) (fun W hI => ⟨_, _, _, rfl, ⟨rfl, rfl, rfl⟩, hI⟩)

/-! ### grapevine/grapevineref2.in: function 75 -/
def grapevineref2_in (a0 : Int) (a1 : Int) : Option Bool := ((if a0 ≥ 0 then some (decide (a0 ≤ a1)) else some false).bind fun s1 => some s1)
set_option maxHeartbeats 4000000 in
theorem grapevineref2_in_calls {B : World} {G : GMap} {Γ : List Chunk} {W : World} (a0 : Int) (a1 : Int) (r : Bool) (h : grapevineref2_in a0 a1 = some r) (hI : Inv B G (Γ) W) :
    Calls Tryd.prog 75 [.int .i64 a0, .int .i64 a1].toArray W (Ret B (fun v G' Γ' => v = .bool r ∧ G = G' ∧ Γ = Γ')) := by
  refine calls_WP (Γ := Γ) (G := G) (B := B) Tryd.func75 rfl (by kernel_rfl) ?_ hI
  clear hI
  unfold grapevineref2_in at h
  refine WP.seqP [0, 1] (L' := [(0, .int .i64 a0), (1, .int .i64 a1)]) (by kernel_rfl) ?_
  rw [Option.bind_eq_some_iff] at h
  obtain ⟨os1, h, hk2⟩ := h
  refine WP.cut (fun L' G' Γ' => ∃ s1 : Bool, s1 = os1 ∧ L' = [(4, .bool s1)] ∧ G = G' ∧ Γ = Γ') ?_ ?_
  · clear hk2
    refine WP.region ?_
    refine WL.pure 0 3 [0, 1, 7] (L' := [(0, .int .i64 a0), (1, .int .i64 a1), (7, .bool (decide (a0 ≥ 0)))]) (by kernel_rfl) (by decide) ?_
    refine WL.split 7 (b := decide (a0 ≥ 0)) (by kernel_rfl) (fun hc => ?_) (fun hc => ?_)
    · replace hc := of_decide_eq_true hc
      rw [if_pos hc] at h
      have hc3 := hc
      clear hc
      refine WL.rest 3 [4] (L' := [(4, .bool (decide (a0 ≤ a1)))]) (by kernel_rfl) ?_
      refine QP.pick [4] ?_
      exact QP.meet ⟨_, Option.some.inj h, rfl, rfl, rfl⟩
    · replace hc := of_decide_eq_false hc
      rw [if_neg hc] at h
      have hc3 := hc
      clear hc
      refine WL.rest 3 [4] (L' := [(4, .bool false)]) (by kernel_rfl) ?_
      refine QP.pick [4] ?_
      exact QP.meet ⟨_, Option.some.inj h, rfl, rfl, rfl⟩
  · rintro _ _ _ ⟨s1, rfl, rfl, rfl, rfl⟩
    clear h
    replace h := hk2
    refine WP.ret ?_
    obtain rfl := Option.some.inj h
    exact QP.returned [4] [.bool s1] _ (by kernel_rfl) (by kernel_rfl) (by kernel_rfl) (fun W hI => ⟨_, _, _, rfl, ⟨rfl, rfl, rfl⟩, hI⟩)

/-! ### grapevine/grapevineref2.May: function 61 -/
def grapevineref2_May (a0 : T25) : Option Bool := (((grapevineref2_in a0.f0 1099511627776).bind fun t4 => (if t4 = true then ((grapevineref2_in a0.f1 65535).bind fun t9 => some t9) else some false)).bind fun s2 => some s2)
set_option maxHeartbeats 4000000 in
theorem grapevineref2_May_calls {B : World} {G : GMap} {Γ : List Chunk} {W : World} (a0 : T25) (r : Bool) (h : grapevineref2_May a0 = some r) (hI : Inv B G (Γ) W) :
    Calls Tryd.prog 61 [.agg #[.int .i64 a0.f0, .int .i64 a0.f1]].toArray W (Ret B (fun v G' Γ' => v = .bool r ∧ G = G' ∧ Γ = Γ')) := by
  refine calls_WP (Γ := Γ) (G := G) (B := B) Tryd.func61 rfl (by kernel_rfl) ?_ hI
  clear hI
  unfold grapevineref2_May at h
  refine WP.seqR ?_
  refine WL.op (op := .box 25 (.tmp 0)) (ty := 0) (d := some 1) (g := none) (by kernel_rfl) (by kernel_rfl) (by kernel_rfl) (Does.new (o := .cells #[.int .i64 a0.f0, .int .i64 a0.f1] 25 (0, 0)) (v := fun r => .pointer (some ⟨r, 0, none⟩)) (fun r => by kernel_rfl)) ?_
  rintro _ _ _ ⟨b1, rfl, rfl, rfl⟩
  refine WL.restQ 1 [1] (L' := [(1, .pointer (some ⟨b1, 0, none⟩))]) (by kernel_rfl) ?_
  rw [Option.bind_eq_some_iff] at h
  obtain ⟨os2, h, hk3⟩ := h
  refine WP.cut (fun L' G' Γ' => ∃ s2 : Bool, s2 = os2 ∧ L' = [(2, .bool s2)] ∧ G = G' ∧ Γ = Γ') ?_ ?_
  · clear hk3
    refine WP.region ?_
    refine WL.pure 0 1 [1, 3] (L' := [(1, .pointer (some ⟨b1, 0, none⟩)), (3, .pointer (some ⟨b1, 0, none⟩))]) (by kernel_rfl) (by decide) ?_
    refine WL.tell (op := .load 3 (.tmp 3)) (ty := 3) (d := some 4) (g := none) (by kernel_rfl) (by kernel_rfl) (by kernel_rfl) (Tells.load_box (i := 0) (b := b1) (o := 0) (agg := false) (by rfl) ag3 (by kernel_rfl) (fun _ => rfl) (Nat.le_of_ble_eq_true rfl) (v := .int .i64 a0.f0) (by kernel_rfl)) ?_
    rw [Option.bind_eq_some_iff] at h
    obtain ⟨t4, ht5, h⟩ := h
    refine WL.op (op := .call { callee := (.value (.func 75)), args := #[(.tmp 4), (.const (.int .i64 1099511627776))], argTypes := #[3, 3] }) (ty := 4) (d := some 5) (g := none) (by kernel_rfl) (by kernel_rfl) (by kernel_rfl) (Does.call (f := 75) (args := [.int .i64 a0.f0, .int .i64 1099511627776]) (by kernel_rfl) (fun W hI => (grapevineref2_in_calls a0.f0 1099511627776  t4 ht5 hI))) ?_
    rintro _ _ _ ⟨rfl, rfl, rfl⟩
    refine WL.pure 3 4 [1, 6] (L' := [(1, .pointer (some ⟨b1, 0, none⟩)), (6, .bool t4)]) (by kernel_rfl) (by decide) ?_
    refine WL.split 6 (b := t4) (by kernel_rfl) (fun hc => ?_) (fun hc => ?_)
    · replace hc := hc
      rw [if_pos hc] at h
      have hc8 := hc
      clear hc
      refine WL.pure 4 5 [6, 7] (L' := [(6, .bool true), (7, .pointer (some ⟨b1, 1, none⟩))]) (by kernel_rfl) (by decide) ?_
      refine WL.tell (op := .load 3 (.tmp 7)) (ty := 3) (d := some 8) (g := some (3, true)) (by kernel_rfl) (by kernel_rfl) (by kernel_rfl) (Tells.load_box (i := 0) (b := b1) (o := 1) (agg := false) (by rfl) ag3 (by kernel_rfl) (fun _ => rfl) (Nat.le_of_ble_eq_true rfl) (v := .int .i64 a0.f1) (by kernel_rfl)) ?_
      rw [Option.bind_eq_some_iff] at h
      obtain ⟨t9, ht10, h⟩ := h
      refine WL.op (op := .call { callee := (.value (.func 75)), args := #[(.tmp 8), (.const (.int .i64 65535))], argTypes := #[3, 3] }) (ty := 4) (d := some 9) (g := some (3, true)) (by kernel_rfl) (by kernel_rfl) (by kernel_rfl) (Does.call (f := 75) (args := [.int .i64 a0.f1, .int .i64 65535]) (by kernel_rfl) (fun W hI => (grapevineref2_in_calls a0.f1 65535  t9 ht10 hI))) ?_
      rintro _ _ _ ⟨rfl, rfl, rfl⟩
      refine WL.rest 7 [2] (L' := [(2, .bool t9)]) (by kernel_rfl) ?_
      refine QP.dropAt 0 ?_
      refine QP.pick [2] ?_
      exact QP.meet ⟨_, Option.some.inj h, rfl, rfl, rfl⟩
    · replace hc := (Bool.eq_false_iff.1 hc)
      rw [if_neg hc] at h
      have hc8 := hc
      clear hc
      refine WL.rest 4 [2] (L' := [(2, .bool false)]) (by kernel_rfl) ?_
      refine QP.dropAt 0 ?_
      refine QP.pick [2] ?_
      exact QP.meet ⟨_, Option.some.inj h, rfl, rfl, rfl⟩
  · rintro _ _ _ ⟨s2, rfl, rfl, rfl, rfl⟩
    clear h
    replace h := hk3
    refine WP.ret ?_
    obtain rfl := Option.some.inj h
    exact QP.returned [2] [.bool s2] _ (by kernel_rfl) (by kernel_rfl) (by kernel_rfl) (fun W hI => ⟨_, _, _, rfl, ⟨rfl, rfl, rfl⟩, hI⟩)

/-! ### grapevine/grapevineref1.May: function 44 -/
def grapevineref1_May (a0 : ByteArray) : Option Bool := ((if (a0.size : Int) ≤ 120 then ((utf8_ValidString a0).bind fun t4 => some t4) else some false).bind fun s1 => some s1)
set_option maxHeartbeats 4000000 in
theorem grapevineref1_May_calls {B : World} {G : GMap} {Γ : List Chunk} {W : World} (HT : Tabs B G) (a0 : ByteArray) (r : Bool) (h : grapevineref1_May a0 = some r) (hI : Inv B G (Γ) W) :
    Calls Tryd.prog 44 [.string a0].toArray W (Ret B (fun v G' Γ' => v = .bool r ∧ G = G' ∧ Γ = Γ')) := by
  refine calls_WP (Γ := Γ) (G := G) (B := B) Tryd.func44 rfl (by kernel_rfl) ?_ hI
  clear hI
  unfold grapevineref1_May at h
  refine WP.seqP [0] (L' := [(0, .string a0)]) (by kernel_rfl) ?_
  rw [Option.bind_eq_some_iff] at h
  obtain ⟨os1, h, hk2⟩ := h
  refine WP.cut (fun L' G' Γ' => ∃ s1 : Bool, s1 = os1 ∧ L' = [(2, .bool s1)] ∧ G = G' ∧ Γ = Γ') ?_ ?_
  · clear hk2
    refine WP.region ?_
    refine WL.pure 0 4 [0, 6] (L' := [(0, .string a0), (6, .bool (decide ((a0.size : Int) ≤ 120)))]) (by kernel_rfl) (by decide) ?_
    refine WL.split 6 (b := decide ((a0.size : Int) ≤ 120)) (by kernel_rfl) (fun hc => ?_) (fun hc => ?_)
    · replace hc := of_decide_eq_true hc
      rw [if_pos hc] at h
      have hc3 := hc
      clear hc
      refine WL.pure 4 5 [6, 7] (L' := [(6, .bool true), (7, .string a0)]) (by kernel_rfl) (by decide) ?_
      rw [Option.bind_eq_some_iff] at h
      obtain ⟨t4, ht5, h⟩ := h
      refine WL.op (op := .call { callee := (.value (.func 50)), args := #[(.tmp 7)], argTypes := #[9] }) (ty := 4) (d := some 8) (g := some (3, true)) (by kernel_rfl) (by kernel_rfl) (by kernel_rfl) (Does.call (f := 50) (args := [.string a0]) (by kernel_rfl) (fun W hI => (utf8_ValidString_calls HT a0  t4 ht5 hI))) ?_
      rintro _ _ _ ⟨rfl, rfl, rfl⟩
      refine WL.rest 6 [2] (L' := [(2, .bool t4)]) (by kernel_rfl) ?_
      refine QP.pick [2] ?_
      exact QP.meet ⟨_, Option.some.inj h, rfl, rfl, rfl⟩
    · replace hc := of_decide_eq_false hc
      rw [if_neg hc] at h
      have hc3 := hc
      clear hc
      refine WL.rest 4 [2] (L' := [(2, .bool false)]) (by kernel_rfl) ?_
      refine QP.pick [2] ?_
      exact QP.meet ⟨_, Option.some.inj h, rfl, rfl, rfl⟩
  · rintro _ _ _ ⟨s1, rfl, rfl, rfl, rfl⟩
    clear h
    replace h := hk2
    refine WP.ret ?_
    obtain rfl := Option.some.inj h
    exact QP.returned [2] [.bool s1] _ (by kernel_rfl) (by kernel_rfl) (by kernel_rfl) (fun W hI => ⟨_, _, _, rfl, ⟨rfl, rfl, rfl⟩, hI⟩)

/-! ### grapevine/grapevineref4.May: function 32 -/
def grapevineref4_May (a0 : T27) : Option Bool := (((grapevineref4_MayKey (⟨a0.f0, a0.f1⟩ : T23)).bind fun t4 => (if t4 = true then ((grapevineref2_May (⟨a0.f2, a0.f3⟩ : T25)).bind fun t9 => (if t9 = true then ((grapevineref1_May a0.f4).bind fun t14 => some t14) else some false)) else some false)).bind fun s2 => some s2)
set_option maxHeartbeats 4000000 in
theorem grapevineref4_May_calls {B : World} {G : GMap} {Γ : List Chunk} {W : World} (HT : Tabs B G) (a0 : T27) (r : Bool) (h : grapevineref4_May a0 = some r) (hI : Inv B G (Γ) W) :
    Calls Tryd.prog 32 [.agg #[.int .i64 a0.f0, .int .i64 a0.f1, .int .i64 a0.f2, .int .i64 a0.f3, .string a0.f4]].toArray W (Ret B (fun v G' Γ' => v = .bool r ∧ G = G' ∧ Γ = Γ')) := by
  refine calls_WP (Γ := Γ) (G := G) (B := B) Tryd.func32 rfl (by kernel_rfl) ?_ hI
  clear hI
  unfold grapevineref4_May at h
  refine WP.seqR ?_
  refine WL.op (op := .box 27 (.tmp 0)) (ty := 0) (d := some 1) (g := none) (by kernel_rfl) (by kernel_rfl) (by kernel_rfl) (Does.new (o := .cells #[.int .i64 a0.f0, .int .i64 a0.f1, .int .i64 a0.f2, .int .i64 a0.f3, .string a0.f4] 27 (0, 0)) (v := fun r => .pointer (some ⟨r, 0, none⟩)) (fun r => by kernel_rfl)) ?_
  rintro _ _ _ ⟨b1, rfl, rfl, rfl⟩
  refine WL.restQ 1 [1] (L' := [(1, .pointer (some ⟨b1, 0, none⟩))]) (by kernel_rfl) ?_
  rw [Option.bind_eq_some_iff] at h
  obtain ⟨os2, h, hk3⟩ := h
  refine WP.cut (fun L' G' Γ' => ∃ s2 : Bool, s2 = os2 ∧ L' = [(2, .bool s2)] ∧ G = G' ∧ Γ = Γ') ?_ ?_
  · clear hk3
    refine WP.region ?_
    refine WL.pure 0 1 [1, 3] (L' := [(1, .pointer (some ⟨b1, 0, none⟩)), (3, .pointer (some ⟨b1, 0, none⟩))]) (by kernel_rfl) (by decide) ?_
    refine WL.tell (op := .load 23 (.tmp 3)) (ty := 23) (d := some 4) (g := none) (by kernel_rfl) (by kernel_rfl) (by kernel_rfl) (Tells.load_box (i := 0) (b := b1) (o := 0) (agg := true) (by rfl) ag23 (by kernel_rfl) (fun h => by cases h) (Nat.le_of_ble_eq_true rfl) (v := .agg #[.int .i64 a0.f0, .int .i64 a0.f1]) (by kernel_rfl)) ?_
    rw [Option.bind_eq_some_iff] at h
    obtain ⟨t4, ht5, h⟩ := h
    refine WL.op (op := .call { callee := (.value (.func 60)), args := #[(.tmp 4)], argTypes := #[23] }) (ty := 4) (d := some 5) (g := none) (by kernel_rfl) (by kernel_rfl) (by kernel_rfl) (Does.call (f := 60) (args := [.agg #[.int .i64 a0.f0, .int .i64 a0.f1]]) (by kernel_rfl) (fun W hI => (grapevineref4_MayKey_calls (⟨a0.f0, a0.f1⟩ : T23)  t4 ht5 hI))) ?_
    rintro _ _ _ ⟨rfl, rfl, rfl⟩
    refine WL.pure 3 4 [1, 6] (L' := [(1, .pointer (some ⟨b1, 0, none⟩)), (6, .bool t4)]) (by kernel_rfl) (by decide) ?_
    refine WL.split 6 (b := t4) (by kernel_rfl) (fun hc => ?_) (fun hc => ?_)
    · replace hc := hc
      rw [if_pos hc] at h
      have hc8 := hc
      clear hc
      refine WL.pure 4 5 [1, 6, 7] (L' := [(1, .pointer (some ⟨b1, 0, none⟩)), (6, .bool true), (7, .pointer (some ⟨b1, 2, none⟩))]) (by kernel_rfl) (by decide) ?_
      refine WL.tell (op := .load 25 (.tmp 7)) (ty := 25) (d := some 8) (g := some (3, true)) (by kernel_rfl) (by kernel_rfl) (by kernel_rfl) (Tells.load_box (i := 0) (b := b1) (o := 2) (agg := true) (by rfl) ag25 (by kernel_rfl) (fun h => by cases h) (Nat.le_of_ble_eq_true rfl) (v := .agg #[.int .i64 a0.f2, .int .i64 a0.f3]) (by kernel_rfl)) ?_
      rw [Option.bind_eq_some_iff] at h
      obtain ⟨t9, ht10, h⟩ := h
      refine WL.op (op := .call { callee := (.value (.func 61)), args := #[(.tmp 8)], argTypes := #[25] }) (ty := 4) (d := some 9) (g := some (3, true)) (by kernel_rfl) (by kernel_rfl) (by kernel_rfl) (Does.call (f := 61) (args := [.agg #[.int .i64 a0.f2, .int .i64 a0.f3]]) (by kernel_rfl) (fun W hI => (grapevineref2_May_calls (⟨a0.f2, a0.f3⟩ : T25)  t9 ht10 hI))) ?_
      rintro _ _ _ ⟨rfl, rfl, rfl⟩
      refine WL.pure 7 9 [1, 11] (L' := [(1, .pointer (some ⟨b1, 0, none⟩)), (11, .bool t9)]) (by kernel_rfl) (by decide) ?_
      refine WL.split 11 (b := t9) (by kernel_rfl) (fun hc => ?_) (fun hc => ?_)
      · replace hc := hc
        rw [if_pos hc] at h
        have hc13 := hc
        clear hc
        refine WL.pure 9 10 [11, 12] (L' := [(11, .bool true), (12, .pointer (some ⟨b1, 4, none⟩))]) (by kernel_rfl) (by decide) ?_
        refine WL.tell (op := .load 9 (.tmp 12)) (ty := 9) (d := some 13) (g := some (8, true)) (by kernel_rfl) (by kernel_rfl) (by kernel_rfl) (Tells.load_box (i := 0) (b := b1) (o := 4) (agg := false) (by rfl) ag9 (by kernel_rfl) (fun _ => rfl) (Nat.le_of_ble_eq_true rfl) (v := .string a0.f4) (by kernel_rfl)) ?_
        rw [Option.bind_eq_some_iff] at h
        obtain ⟨t14, ht15, h⟩ := h
        refine WL.op (op := .call { callee := (.value (.func 44)), args := #[(.tmp 13)], argTypes := #[9] }) (ty := 4) (d := some 14) (g := some (8, true)) (by kernel_rfl) (by kernel_rfl) (by kernel_rfl) (Does.call (f := 44) (args := [.string a0.f4]) (by kernel_rfl) (fun W hI => (grapevineref1_May_calls HT a0.f4  t14 ht15 hI))) ?_
        rintro _ _ _ ⟨rfl, rfl, rfl⟩
        refine WL.rest 12 [2] (L' := [(2, .bool t14)]) (by kernel_rfl) ?_
        refine QP.dropAt 0 ?_
        refine QP.pick [2] ?_
        exact QP.meet ⟨_, Option.some.inj h, rfl, rfl, rfl⟩
      · replace hc := (Bool.eq_false_iff.1 hc)
        rw [if_neg hc] at h
        have hc13 := hc
        clear hc
        refine WL.rest 9 [2] (L' := [(2, .bool false)]) (by kernel_rfl) ?_
        refine QP.dropAt 0 ?_
        refine QP.pick [2] ?_
        exact QP.meet ⟨_, Option.some.inj h, rfl, rfl, rfl⟩
    · replace hc := (Bool.eq_false_iff.1 hc)
      rw [if_neg hc] at h
      have hc8 := hc
      clear hc
      refine WL.rest 4 [2] (L' := [(2, .bool false)]) (by kernel_rfl) ?_
      refine QP.dropAt 0 ?_
      refine QP.pick [2] ?_
      exact QP.meet ⟨_, Option.some.inj h, rfl, rfl, rfl⟩
  · rintro _ _ _ ⟨s2, rfl, rfl, rfl, rfl⟩
    clear h
    replace h := hk3
    refine WP.ret ?_
    obtain rfl := Option.some.inj h
    exact QP.returned [2] [.bool s2] _ (by kernel_rfl) (by kernel_rfl) (by kernel_rfl) (fun W hI => ⟨_, _, _, rfl, ⟨rfl, rfl, rfl⟩, hI⟩)

/-! ### grapevine/grapevineref4.Num: function 53 -/
def grapevineref4_Num_l0 (a1 : Int) : Nat → (List Int) → Int → Option (List Int)
  | 0, _, _ => none
  | k + 1, y3, y4 => (if y4 ≥ 0 then (if 0 ≤ (IntKind.i64.wrap (8 * y4)) then (if y3.length + ([IntKind.u8.wrap (shrK .i64 a1 (IntKind.i64.wrap (8 * y4)))] : List Int).length ≤ 1073741824 then grapevineref4_Num_l0 a1 k (y3 ++ ([IntKind.u8.wrap (shrK .i64 a1 (IntKind.i64.wrap (8 * y4)))] : List Int)) (IntKind.i64.wrap (y4 - 1)) else none) else none) else some y3)
def grapevineref4_Num (k : Nat) (l0 : List Int) (a1 : Int) (a2 : Int) : Option (List Int) := ((grapevineref4_Num_l0 a1 k l0 (IntKind.i64.wrap (a2 - 1))).bind fun s1 => some s1)
set_option maxHeartbeats 4000000 in
theorem grapevineref4_Num_calls {B : World} {G : GMap} {Γ : List Chunk} {W : World} (k : Nat) (l0 : List Int) (a1 : Int) (a2 : Int) (Al0 : Option Addr) (cl0 : Nat) (Cl0 : Chunk) (Hl0 : Ow (kInt .u8) G Al0 cl0 l0 Cl0) (r : List Int) (h : grapevineref4_Num k l0 a1 a2 = some r) (hI : Inv B G (Cl0 :: Γ) W) :
    Calls Tryd.prog 53 [.slice Al0 l0.length cl0, .int .i64 a1, .int .i64 a2].toArray W (Ret B (fun v G' Γ' => ∃ (AR : Option Addr), ∃ (cR : Nat), ∃ (CR : Chunk), v = .slice AR r.length cR ∧ Ow (kInt .u8) G' AR cR r CR ∧ G = G' ∧ CR :: Γ = Γ')) := by
  refine calls_WP (Γ := Cl0 :: Γ) (G := G) (B := B) Tryd.func53 rfl (by kernel_rfl) ?_ hI
  clear hI
  unfold grapevineref4_Num at h
  refine WP.seqP [0, 1, 2] (L' := [(0, .slice Al0 l0.length cl0), (1, .int .i64 a1), (2, .int .i64 a2)]) (by kernel_rfl) ?_
  refine WP.seq ?_
  refine WP.seqP [0, 1, 7] (L' := [(0, .slice Al0 l0.length cl0), (1, .int .i64 a1), (7, .int .i64 (IntKind.i64.wrap (a2 - 1)))]) (by kernel_rfl) ?_
  rw [Option.bind_eq_some_iff] at h
  obtain ⟨os1, h, hk2⟩ := h
  refine WP.cutQ (fun L' G' Γ' => ∃ s1 : (List Int), s1 = os1 ∧ ∃ (As1 : Option Addr), ∃ (cs1 : Nat), ∃ (Cs1 : Chunk), L' = [(0, .slice As1 s1.length cs1)] ∧ G = G' ∧ Cs1 :: Γ = Γ' ∧ Ow (kInt .u8) G As1 cs1 s1 Cs1) ?_ ?_
  · clear hk2
    refine WP.block ?_
    refine WP.pick [0, 1, 7] ?_
    refine WP.loopF (fun kn5 L' G' Γ' => ∃ (y3 : List Int), ∃ (y4 : Int), grapevineref4_Num_l0 a1 kn5 y3 y4 = some os1 ∧ ∃ (Ay3 : Option Addr), ∃ (cy3 : Nat), ∃ (Cy3 : Chunk), L' = [(0, .slice Ay3 y3.length cy3), (1, .int .i64 a1), (7, .int .i64 y4)] ∧ G = G' ∧ Cy3 :: Γ = Γ' ∧ Ow (kInt .u8) G Ay3 cy3 y3 Cy3) ?_ k ⟨l0, (IntKind.i64.wrap (a2 - 1)), h, Al0, cl0, Cl0, rfl, rfl, rfl, Hl0⟩
    clear h
    rintro kn6 _ _ _ ⟨y3, y4, h, Ay3, cy3, Cy3, rfl, rfl, rfl, Hy3⟩
    cases kn6 with
    | zero => exact absurd h (by simp [grapevineref4_Num_l0])
    | succ kn6 =>
      simp only [grapevineref4_Num_l0] at h
      refine WP.seq ?_
      refine WP.seqP [0, 1, 7, 11] (L' := [(0, .slice Ay3 y3.length cy3), (1, .int .i64 a1), (7, .int .i64 y4), (11, .bool (decide (y4 ≥ 0)))]) (by kernel_rfl) ?_
      refine WP.cond (b := decide (y4 ≥ 0)) (by kernel_rfl) (fun hc => ?_) (fun hc => ?_)
      · replace hc := of_decide_eq_true hc
        rw [if_pos hc] at h
        have hc7 := hc
        clear hc
        refine WP.skip ?_
        refine QP.next ?_
        refine WP.pick [0, 1, 7] ?_
        refine WP.seq ?_
        refine WP.block ?_
        refine WP.region ?_
        refine WL.pure 0 4 [0, 1, 7, 14, 15, 17] (L' := [(0, .slice Ay3 y3.length cy3), (1, .int .i64 a1), (7, .int .i64 y4), (14, .slice Ay3 y3.length cy3), (15, .int .i64 a1), (17, .int .i64 (IntKind.i64.wrap (8 * y4)))]) (by kernel_rfl) (by decide) ?_
        by_cases hb8 : 0 ≤ (IntKind.i64.wrap (8 * y4))
        case neg => rw [if_neg hb8] at h; cases h
        rw [if_pos hb8] at h
        refine WL.tell (op := .binOp .shr 3 (.tmp 15) (.tmp 17) 3) (ty := 3) (d := some 18) (g := none) (by kernel_rfl) (by kernel_rfl) (by kernel_rfl) (Tells.shr (k := .i64) (k' := .i64) (a := a1) (b := (IntKind.i64.wrap (8 * y4))) (by kernel_rfl) (by kernel_rfl) hb8) ?_
        refine WL.pure 5 6 [0, 1, 7, 14, 19] (L' := [(0, .slice Ay3 y3.length cy3), (1, .int .i64 a1), (7, .int .i64 y4), (14, .slice Ay3 y3.length cy3), (19, .int .u8 (IntKind.u8.wrap (shrK .i64 a1 (IntKind.i64.wrap (8 * y4)))))]) (by kernel_rfl) (by decide) ?_
        refine WL.op (op := .buildSlice 29 1 #[(0, (.tmp 19))]) (ty := 29) (d := some 20) (g := none) (by kernel_rfl) (by kernel_rfl) (by kernel_rfl) (Does.new (o := .cells #[.int .u8 (IntKind.u8.wrap (shrK .i64 a1 (IntKind.i64.wrap (8 * y4))))] 5 (0, 0)) (v := fun r => .slice (some ⟨r, 0, none⟩) 1 1) (fun r => by kernel_rfl)) ?_
        rintro _ _ _ ⟨b9, rfl, rfl, rfl⟩
        have Ho11 : Ow (kInt .u8) G (some ⟨b9, 0, none⟩) 1 ([IntKind.u8.wrap (shrK .i64 a1 (IntKind.i64.wrap (8 * y4)))] : List Int) [(b9, .cells #[.int .u8 (IntKind.u8.wrap (shrK .i64 a1 (IntKind.i64.wrap (8 * y4))))] 5 (0, 0))] := Ow.lit (kd := (kInt .u8)) (G := G) (b := b9) (T := 5) (xs := ([IntKind.u8.wrap (shrK .i64 a1 (IntKind.i64.wrap (8 * y4)))] : List Int)) (cs := [.int .u8 (IntKind.u8.wrap (shrK .i64 a1 (IntKind.i64.wrap (8 * y4))))]) (.cons (x := (IntKind.u8.wrap (shrK .i64 a1 (IntKind.i64.wrap (8 * y4))))) (cs := [.int .u8 (IntKind.u8.wrap (shrK .i64 a1 (IntKind.i64.wrap (8 * y4))))]) (by exact rfl) .nil)
        by_cases hb12 : y3.length + ([IntKind.u8.wrap (shrK .i64 a1 (IntKind.i64.wrap (8 * y4)))] : List Int).length ≤ 1073741824
        case neg => rw [if_neg hb12] at h; cases h
        rw [if_pos hb12] at h
        refine WL.op (op := .call { callee := (.builtin .append), args := #[(.tmp 14), (.tmp 20)], argTypes := #[29, 29] }) (ty := 29) (d := some 21) (g := none) (by kernel_rfl) (by kernel_rfl) (by kernel_rfl) (Ow.append (ys := ([IntKind.u8.wrap (shrK .i64 a1 (IntKind.i64.wrap (8 * y4)))] : List Int)) (v := .slice (some ⟨b9, 0, none⟩) ([IntKind.u8.wrap (shrK .i64 a1 (IntKind.i64.wrap (8 * y4)))] : List Int).length 1) Hy3 (i := 1) rfl (by kernel_rfl) (by kernel_rfl) (Ho11.src (i := 0) rfl) sl29 ze5 nt29 (by decide) hb12) ?_
        rintro _ _ _ ⟨rfl, AN13, cN13, CN13, rfl, HN13, rfl⟩
        refine WL.rest 8 [0, 1, 7] (L' := [(0, .slice AN13 (y3 ++ ([IntKind.u8.wrap (shrK .i64 a1 (IntKind.i64.wrap (8 * y4)))] : List Int)).length cN13), (1, .int .i64 a1), (7, .int .i64 y4)]) (by kernel_rfl) ?_
        refine QP.blockN ?_
        refine QP.next ?_
        refine WP.pick [0, 1, 7] ?_
        refine WP.regionP [0, 1, 7] (L' := [(0, .slice AN13 (y3 ++ ([IntKind.u8.wrap (shrK .i64 a1 (IntKind.i64.wrap (8 * y4)))] : List Int)).length cN13), (1, .int .i64 a1), (7, .int .i64 (IntKind.i64.wrap (y4 - 1)))]) (by kernel_rfl) ?_
        refine QP.dropAt 0 ?_
        refine QP.pick [0, 1, 7] ?_
        exact QP.meet ⟨kn6, Nat.lt_succ_self _, (y3 ++ ([IntKind.u8.wrap (shrK .i64 a1 (IntKind.i64.wrap (8 * y4)))] : List Int)), (IntKind.i64.wrap (y4 - 1)), h, AN13, cN13, CN13, rfl, rfl, rfl, HN13⟩
      · replace hc := of_decide_eq_false hc
        rw [if_neg hc] at h
        have hc7 := hc
        clear hc
        refine WP.exit ?_
        refine QP.thenE ?_
        refine QP.thenE ?_
        refine QP.blockE ?_
        refine QP.pick [0] ?_
        exact QP.meet ⟨_, Option.some.inj h, Ay3, cy3, Cy3, rfl, rfl, rfl, Hy3⟩
  · rintro _ _ _ ⟨s1, rfl, As1, cs1, Cs1, rfl, rfl, rfl, Hs1⟩
    clear h
    replace h := hk2
    refine QP.next ?_
    refine WP.pick [0] ?_
    refine WP.seqP [6] (L' := [(6, .slice As1 s1.length cs1)]) (by kernel_rfl) ?_
    refine WP.ret ?_
    obtain rfl := Option.some.inj h
    exact QP.returned [6] [.slice As1 s1.length cs1] _ (by kernel_rfl) (by kernel_rfl) (by kernel_rfl) (fun W hI => ⟨_, _, _, rfl, ⟨As1, cs1, Cs1, rfl, Hs1, rfl, rfl⟩, hI⟩)

/-! ### grapevine/grapevineref4.Lay: function 15 -/
def grapevineref4_Lay (k : Nat) (a0 : T27) : Option ((List Int) × Int) := ((grapevineref4_May a0).bind fun t2 => (if (!t2) = true then some (([] : List Int), 2) else ((grapevineref4_Num k ([] : List Int) a0.f0 1).bind fun t7 => ((grapevineref4_Num k t7 a0.f1 2).bind fun t11 => ((grapevineref4_Num k t11 a0.f2 6).bind fun t15 => ((grapevineref4_Num k t15 a0.f3 2).bind fun t19 => ((grapevineref4_Num k t19 (a0.f4.size : Int) 1).bind fun t23 => (if t23.length + (bytesOf a0.f4).length ≤ 1073741824 then some ((t23 ++ (bytesOf a0.f4)), 0) else none))))))))
set_option maxHeartbeats 4000000 in
theorem grapevineref4_Lay_calls {B : World} {G : GMap} {Γ : List Chunk} {W : World} (HT : Tabs B G) (k : Nat) (a0 : T27) (r : (List Int) × Int) (h : grapevineref4_Lay k a0 = some r) (hI : Inv B G (Γ) W) :
    Calls Tryd.prog 15 [.agg #[.int .i64 a0.f0, .int .i64 a0.f1, .int .i64 a0.f2, .int .i64 a0.f3, .string a0.f4]].toArray W (Ret B (fun v G' Γ' => ∃ (AR0 : Option Addr), ∃ (cR0 : Nat), ∃ (CR0 : Chunk), v = .tuple #[.slice AR0 r.1.length cR0, .int .i64 r.2] ∧ Ow (kInt .u8) G' AR0 cR0 r.1 CR0 ∧ G = G' ∧ CR0 :: Γ = Γ')) := by
  refine calls_WP (Γ := Γ) (G := G) (B := B) Tryd.func15 rfl (by kernel_rfl) ?_ hI
  clear hI
  unfold grapevineref4_Lay at h
  refine WP.seqR ?_
  refine WL.op (op := .box 27 (.tmp 0)) (ty := 0) (d := some 1) (g := none) (by kernel_rfl) (by kernel_rfl) (by kernel_rfl) (Does.new (o := .cells #[.int .i64 a0.f0, .int .i64 a0.f1, .int .i64 a0.f2, .int .i64 a0.f3, .string a0.f4] 27 (0, 0)) (v := fun r => .pointer (some ⟨r, 0, none⟩)) (fun r => by kernel_rfl)) ?_
  rintro _ _ _ ⟨b1, rfl, rfl, rfl⟩
  refine WL.restQ 1 [1] (L' := [(1, .pointer (some ⟨b1, 0, none⟩))]) (by kernel_rfl) ?_
  refine WP.seq ?_
  refine WP.seqR ?_
  refine WL.tell (op := .load 27 (.tmp 1)) (ty := 27) (d := some 5) (g := none) (by kernel_rfl) (by kernel_rfl) (by kernel_rfl) (Tells.load_box (i := 0) (b := b1) (o := 0) (agg := true) (by rfl) ag27 (by kernel_rfl) (fun h => by cases h) (Nat.le_of_ble_eq_true rfl) (v := .agg #[.int .i64 a0.f0, .int .i64 a0.f1, .int .i64 a0.f2, .int .i64 a0.f3, .string a0.f4]) (by kernel_rfl)) ?_
  rw [Option.bind_eq_some_iff] at h
  obtain ⟨t2, ht3, h⟩ := h
  refine WL.op (op := .call { callee := (.value (.func 32)), args := #[(.tmp 5)], argTypes := #[27] }) (ty := 4) (d := some 6) (g := none) (by kernel_rfl) (by kernel_rfl) (by kernel_rfl) (Does.call (f := 32) (args := [.agg #[.int .i64 a0.f0, .int .i64 a0.f1, .int .i64 a0.f2, .int .i64 a0.f3, .string a0.f4]]) (by kernel_rfl) (fun W hI => (grapevineref4_May_calls HT a0  t2 ht3 hI))) ?_
  rintro _ _ _ ⟨rfl, rfl, rfl⟩
  refine WL.restQ 2 [1, 7] (L' := [(1, .pointer (some ⟨b1, 0, none⟩)), (7, .bool (!t2))]) (by kernel_rfl) ?_
  refine WP.cond (b := (!t2)) (by kernel_rfl) (fun hc => ?_) (fun hc => ?_)
  · replace hc := hc
    rw [if_pos hc] at h
    have hc6 := hc
    clear hc
    refine WP.seqP [2, 3] (L' := [(2, .slice none 0 0), (3, .int .i64 2)]) (by kernel_rfl) ?_
    refine WP.dropAt 0 ?_
    refine WP.ret ?_
    refine QP.thenR ?_
    obtain rfl := Option.some.inj h
    refine QP.addNil ?_
    exact QP.returned [2, 3] [.slice none ([] : List Int).length 0, .int .i64 2] _ (by kernel_rfl) (by kernel_rfl) (by kernel_rfl) (fun W hI => ⟨_, _, _, rfl, ⟨none, 0, [], rfl, (Ow.nil (kInt .u8) _), rfl, rfl⟩, hI⟩)
  · replace hc := (Bool.eq_false_iff.1 hc)
    rw [if_neg hc] at h
    have hc6 := hc
    clear hc
    refine WP.skip ?_
    refine QP.next ?_
    refine WP.pick [1] ?_
    refine WP.seq ?_
    refine WP.any (N := 21) (S := [⟨some 8, [1], []⟩, ⟨some 9, [8], [0]⟩, ⟨some 10, [9], [1]⟩, ⟨some 11, [10], [2]⟩, ⟨some 12, [1], []⟩, ⟨some 13, [12], [4]⟩, ⟨some 14, [13], [5]⟩, ⟨some 15, [11, 14], [3, 6]⟩, ⟨some 16, [1], []⟩, ⟨some 17, [16], [8]⟩, ⟨some 18, [17], [9]⟩, ⟨some 19, [15, 18], [7, 10]⟩, ⟨some 20, [1], []⟩, ⟨some 21, [20], [12]⟩, ⟨some 22, [21], [13]⟩, ⟨some 23, [19, 22], [11, 14]⟩, ⟨some 24, [1], []⟩, ⟨some 25, [24], [16]⟩, ⟨some 26, [25], [17]⟩, ⟨some 27, [23, 26], [15, 18]⟩, ⟨some 4, [27], [0, 1, 2, 3, 4, 5, 6, 7, 8, 9, 10, 11, 12, 13, 14, 15, 16, 17, 18, 19]⟩]) (kw := 21) (G0 := G) (Γ0 := [[(b1, .cells #[.int .i64 a0.f0, .int .i64 a0.f1, .int .i64 a0.f2, .int .i64 a0.f3, .string a0.f4] 27 (0, 0))]]) mo (by kernel_rfl) (fun hS => ?_)
    refine WA.pure [0, 1, 4, 5, 8, 9, 12, 13, 16] [1, 9, 13, 17, 21, 24] (m := 12) (b' := 78643) (L' := [(1, .pointer (some ⟨b1, 0, none⟩)), (9, .pointer (some ⟨b1, 0, none⟩)), (13, .pointer (some ⟨b1, 1, none⟩)), (17, .pointer (some ⟨b1, 2, none⟩)), (21, .pointer (some ⟨b1, 3, none⟩)), (24, .pointer (some ⟨b1, 4, none⟩))]) (by kernel_rfl) (NoPanic.then (NoPanic.body)) (Under.mem (C := [(b1, .cells #[.int .i64 a0.f0, .int .i64 a0.f1, .int .i64 a0.f2, .int .i64 a0.f3, .string a0.f4] 27 (0, 0))]) (by repeat first | exact List.Mem.head _ | apply List.Mem.tail)) hS (by kernel_rfl) ?_
    refine WA.tellD [] (i := 2) (m := 11) (b' := 78647) (by kernel_rfl) (NoPanic.then (NoPanic.body)) (Under.mem (C := [(b1, .cells #[.int .i64 a0.f0, .int .i64 a0.f1, .int .i64 a0.f2, .int .i64 a0.f3, .string a0.f4] 27 (0, 0))]) (by repeat first | exact List.Mem.head _ | apply List.Mem.tail)) hS (by kernel_rfl) (op := .load 3 (.tmp 9)) (ty := 3) (d := some 10) (g := none) (by kernel_rfl) (by kernel_rfl) (by kernel_rfl) (Tells.load_box (i := 0) (b := b1) (o := 0) (agg := false) (by rfl) ag3 (by kernel_rfl) (fun _ => rfl) (Nat.le_of_ble_eq_true rfl) (v := .int .i64 a0.f0) (by kernel_rfl)) ?_
    refine WA.tellD [] (i := 6) (m := 10) (b' := 78711) (by kernel_rfl) (NoPanic.then (NoPanic.body)) (Under.mem (C := [(b1, .cells #[.int .i64 a0.f0, .int .i64 a0.f1, .int .i64 a0.f2, .int .i64 a0.f3, .string a0.f4] 27 (0, 0))]) (by repeat first | exact List.Mem.head _ | apply List.Mem.tail)) hS (by kernel_rfl) (op := .load 3 (.tmp 13)) (ty := 3) (d := some 14) (g := none) (by kernel_rfl) (by kernel_rfl) (by kernel_rfl) (Tells.load_box (i := 0) (b := b1) (o := 1) (agg := false) (by rfl) ag3 (by kernel_rfl) (fun _ => rfl) (Nat.le_of_ble_eq_true rfl) (v := .int .i64 a0.f1) (by kernel_rfl)) ?_
    refine WA.tellD [] (i := 10) (m := 9) (b' := 79735) (by kernel_rfl) (NoPanic.then (NoPanic.body)) (Under.mem (C := [(b1, .cells #[.int .i64 a0.f0, .int .i64 a0.f1, .int .i64 a0.f2, .int .i64 a0.f3, .string a0.f4] 27 (0, 0))]) (by repeat first | exact List.Mem.head _ | apply List.Mem.tail)) hS (by kernel_rfl) (op := .load 3 (.tmp 17)) (ty := 3) (d := some 18) (g := none) (by kernel_rfl) (by kernel_rfl) (by kernel_rfl) (Tells.load_box (i := 0) (b := b1) (o := 2) (agg := false) (by rfl) ag3 (by kernel_rfl) (fun _ => rfl) (Nat.le_of_ble_eq_true rfl) (v := .int .i64 a0.f2) (by kernel_rfl)) ?_
    refine WA.tellD [] (i := 14) (m := 8) (b' := 96119) (by kernel_rfl) (NoPanic.then (NoPanic.body)) (Under.mem (C := [(b1, .cells #[.int .i64 a0.f0, .int .i64 a0.f1, .int .i64 a0.f2, .int .i64 a0.f3, .string a0.f4] 27 (0, 0))]) (by repeat first | exact List.Mem.head _ | apply List.Mem.tail)) hS (by kernel_rfl) (op := .load 3 (.tmp 21)) (ty := 3) (d := some 22) (g := none) (by kernel_rfl) (by kernel_rfl) (by kernel_rfl) (Tells.load_box (i := 0) (b := b1) (o := 3) (agg := false) (by rfl) ag3 (by kernel_rfl) (fun _ => rfl) (Nat.le_of_ble_eq_true rfl) (v := .int .i64 a0.f3) (by kernel_rfl)) ?_
    refine WA.tellD [] (i := 17) (m := 7) (b' := 227191) (by kernel_rfl) (NoPanic.then (NoPanic.body)) (Under.mem (C := [(b1, .cells #[.int .i64 a0.f0, .int .i64 a0.f1, .int .i64 a0.f2, .int .i64 a0.f3, .string a0.f4] 27 (0, 0))]) (by repeat first | exact List.Mem.head _ | apply List.Mem.tail)) hS (by kernel_rfl) (op := .load 9 (.tmp 24)) (ty := 9) (d := some 25) (g := none) (by kernel_rfl) (by kernel_rfl) (by kernel_rfl) (Tells.load_box (i := 0) (b := b1) (o := 4) (agg := false) (by rfl) ag9 (by kernel_rfl) (fun _ => rfl) (Nat.le_of_ble_eq_true rfl) (v := .string a0.f4) (by kernel_rfl)) ?_
    refine WA.pure [18] [1, 10, 14, 18, 22, 26] (m := 6) (b' := 489335) (L' := [(1, .pointer (some ⟨b1, 0, none⟩)), (10, .int .i64 a0.f0), (14, .int .i64 a0.f1), (18, .int .i64 a0.f2), (22, .int .i64 a0.f3), (26, .int .i64 (a0.f4.size : Int))]) (by kernel_rfl) (NoPanic.then (NoPanic.body)) (Under.mem (C := [(b1, .cells #[.int .i64 a0.f0, .int .i64 a0.f1, .int .i64 a0.f2, .int .i64 a0.f3, .string a0.f4] 27 (0, 0))]) (by repeat first | exact List.Mem.head _ | apply List.Mem.tail)) hS (by kernel_rfl) ?_
    refine WA.addNil ?_
    rw [Option.bind_eq_some_iff] at h
    obtain ⟨t7, ht8, h⟩ := h
    refine WA.op (i := 3) (m := 5) (b' := 489343) (by kernel_rfl) hS (by kernel_rfl) (op := .call { callee := (.value (.func 53)), args := #[(.const (.slice none 0 0)), (.tmp 10), (.const (.int .i64 1))], argTypes := #[29, 3, 3] }) (ty := 29) (d := some 11) (g := none) (by kernel_rfl) (by kernel_rfl) (by kernel_rfl) (Does.call (f := 53) (args := [.slice none ([] : List Int).length 0, .int .i64 a0.f0, .int .i64 1]) (by kernel_rfl) (fun W hI => (grapevineref4_Num_calls k ([] : List Int) a0.f0 1 none 0 [] (Ow.nil (kInt .u8) G) t7 ht8 hI))) ?_
    rintro _ _ _ ⟨AR9, cR9, CR9, rfl, HR9, rfl, rfl⟩
    refine ⟨_, _, Under.refl, (Under.mem (C := [(b1, .cells #[.int .i64 a0.f0, .int .i64 a0.f1, .int .i64 a0.f2, .int .i64 a0.f3, .string a0.f4] 27 (0, 0))]) (by repeat first | exact List.Mem.head _ | apply List.Mem.tail)), ?_⟩
    rw [Option.bind_eq_some_iff] at h
    obtain ⟨t11, ht12, h⟩ := h
    refine WA.op (i := 7) (m := 4) (b' := 489471) (by kernel_rfl) hS (by kernel_rfl) (op := .call { callee := (.value (.func 53)), args := #[(.tmp 11), (.tmp 14), (.const (.int .i64 2))], argTypes := #[29, 3, 3] }) (ty := 29) (d := some 15) (g := none) (by kernel_rfl) (by kernel_rfl) (by kernel_rfl) (Does.call (f := 53) (args := [.slice AR9 t7.length cR9, .int .i64 a0.f1, .int .i64 2]) (by kernel_rfl) (fun W hI => (grapevineref4_Num_calls k t7 a0.f1 2 AR9 cR9 CR9 HR9 t11 ht12 hI))) ?_
    rintro _ _ _ ⟨AR13, cR13, CR13, rfl, HR13, rfl, rfl⟩
    refine ⟨_, _, Under.refl, (Under.mem (C := [(b1, .cells #[.int .i64 a0.f0, .int .i64 a0.f1, .int .i64 a0.f2, .int .i64 a0.f3, .string a0.f4] 27 (0, 0))]) (by repeat first | exact List.Mem.head _ | apply List.Mem.tail)), ?_⟩
    rw [Option.bind_eq_some_iff] at h
    obtain ⟨t15, ht16, h⟩ := h
    refine WA.op (i := 11) (m := 3) (b' := 491519) (by kernel_rfl) hS (by kernel_rfl) (op := .call { callee := (.value (.func 53)), args := #[(.tmp 15), (.tmp 18), (.const (.int .i64 6))], argTypes := #[29, 3, 3] }) (ty := 29) (d := some 19) (g := none) (by kernel_rfl) (by kernel_rfl) (by kernel_rfl) (Does.call (f := 53) (args := [.slice AR13 t11.length cR13, .int .i64 a0.f2, .int .i64 6]) (by kernel_rfl) (fun W hI => (grapevineref4_Num_calls k t11 a0.f2 6 AR13 cR13 CR13 HR13 t15 ht16 hI))) ?_
    rintro _ _ _ ⟨AR17, cR17, CR17, rfl, HR17, rfl, rfl⟩
    refine ⟨_, _, Under.refl, (Under.mem (C := [(b1, .cells #[.int .i64 a0.f0, .int .i64 a0.f1, .int .i64 a0.f2, .int .i64 a0.f3, .string a0.f4] 27 (0, 0))]) (by repeat first | exact List.Mem.head _ | apply List.Mem.tail)), ?_⟩
    rw [Option.bind_eq_some_iff] at h
    obtain ⟨t19, ht20, h⟩ := h
    refine WA.op (i := 15) (m := 2) (b' := 524287) (by kernel_rfl) hS (by kernel_rfl) (op := .call { callee := (.value (.func 53)), args := #[(.tmp 19), (.tmp 22), (.const (.int .i64 2))], argTypes := #[29, 3, 3] }) (ty := 29) (d := some 23) (g := none) (by kernel_rfl) (by kernel_rfl) (by kernel_rfl) (Does.call (f := 53) (args := [.slice AR17 t15.length cR17, .int .i64 a0.f3, .int .i64 2]) (by kernel_rfl) (fun W hI => (grapevineref4_Num_calls k t15 a0.f3 2 AR17 cR17 CR17 HR17 t19 ht20 hI))) ?_
    rintro _ _ _ ⟨AR21, cR21, CR21, rfl, HR21, rfl, rfl⟩
    refine ⟨_, _, Under.refl, (Under.mem (C := [(b1, .cells #[.int .i64 a0.f0, .int .i64 a0.f1, .int .i64 a0.f2, .int .i64 a0.f3, .string a0.f4] 27 (0, 0))]) (by repeat first | exact List.Mem.head _ | apply List.Mem.tail)), ?_⟩
    rw [Option.bind_eq_some_iff] at h
    obtain ⟨t23, ht24, h⟩ := h
    refine WA.op (i := 19) (m := 1) (b' := 1048575) (by kernel_rfl) hS (by kernel_rfl) (op := .call { callee := (.value (.func 53)), args := #[(.tmp 23), (.tmp 26), (.const (.int .i64 1))], argTypes := #[29, 3, 3] }) (ty := 29) (d := some 27) (g := none) (by kernel_rfl) (by kernel_rfl) (by kernel_rfl) (Does.call (f := 53) (args := [.slice AR21 t19.length cR21, .int .i64 (a0.f4.size : Int), .int .i64 1]) (by kernel_rfl) (fun W hI => (grapevineref4_Num_calls k t19 (a0.f4.size : Int) 1 AR21 cR21 CR21 HR21 t23 ht24 hI))) ?_
    rintro _ _ _ ⟨AR25, cR25, CR25, rfl, HR25, rfl, rfl⟩
    refine ⟨_, _, Under.refl, (Under.mem (C := [(b1, .cells #[.int .i64 a0.f0, .int .i64 a0.f1, .int .i64 a0.f2, .int .i64 a0.f3, .string a0.f4] 27 (0, 0))]) (by repeat first | exact List.Mem.head _ | apply List.Mem.tail)), ?_⟩
    refine WA.pure [20] [1, 4] (m := 0) (b' := 2097151) (L' := [(1, .pointer (some ⟨b1, 0, none⟩)), (4, .slice AR25 t23.length cR25)]) (by kernel_rfl) (NoPanic.then (NoPanic.body)) (Under.mem (C := [(b1, .cells #[.int .i64 a0.f0, .int .i64 a0.f1, .int .i64 a0.f2, .int .i64 a0.f3, .string a0.f4] 27 (0, 0))]) (by repeat first | exact List.Mem.head _ | apply List.Mem.tail)) hS (by kernel_rfl) ?_
    refine WA.done hS (by kernel_rfl) ?_
    refine QP.pick [1, 4] ?_
    refine QP.next ?_
    refine WP.seqR ?_
    refine WL.pure 0 2 [28, 29] (L' := [(28, .slice AR25 t23.length cR25), (29, .pointer (some ⟨b1, 4, none⟩))]) (by kernel_rfl) (by decide) ?_
    refine WL.tell (op := .load 9 (.tmp 29)) (ty := 9) (d := some 30) (g := none) (by kernel_rfl) (by kernel_rfl) (by kernel_rfl) (Tells.load_box (i := 1) (b := b1) (o := 4) (agg := false) (by rfl) ag9 (by kernel_rfl) (fun _ => rfl) (Nat.le_of_ble_eq_true rfl) (v := .string a0.f4) (by kernel_rfl)) ?_
    by_cases hb27 : t23.length + (bytesOf a0.f4).length ≤ 1073741824
    case neg => rw [if_neg hb27] at h; cases h
    rw [if_pos hb27] at h
    refine WL.op (op := .call { callee := (.builtin .append), args := #[(.tmp 28), (.tmp 30)], argTypes := #[29, 9] }) (ty := 29) (d := some 31) (g := none) (by kernel_rfl) (by kernel_rfl) (by kernel_rfl) (Ow.append (ys := (bytesOf a0.f4)) (v := .string a0.f4) HR25 (i := 0) rfl (by kernel_rfl) (by kernel_rfl) (Src.str a0.f4) sl29 ze5 nt9 (by decide) hb27) ?_
    rintro _ _ _ ⟨rfl, AN28, cN28, CN28, rfl, HN28, rfl⟩
    refine WL.restQ 4 [2, 3] (L' := [(2, .slice AN28 (t23 ++ (bytesOf a0.f4)).length cN28), (3, .int .i64 0)]) (by kernel_rfl) ?_
    refine WP.dropAt 1 ?_
    refine WP.ret ?_
    obtain rfl := Option.some.inj h
    exact QP.returned [2, 3] [.slice AN28 (t23 ++ (bytesOf a0.f4)).length cN28, .int .i64 0] _ (by kernel_rfl) (by kernel_rfl) (by kernel_rfl) (fun W hI => ⟨_, _, _, rfl, ⟨AN28, cN28, CN28, rfl, HN28, rfl, rfl⟩, hI⟩)

/-! ### grapevine/grapevinelaw0.Num: function 17 -/
def grapevinelaw0_Num (a0 : Int) : Option Int := some a0
set_option maxHeartbeats 4000000 in
theorem grapevinelaw0_Num_calls {B : World} {G : GMap} {Γ : List Chunk} {W : World} (a0 : Int) (r : Int) (h : grapevinelaw0_Num a0 = some r) (hI : Inv B G (Γ) W) :
    Calls Tryd.prog 17 [.int .i64 a0].toArray W (Ret B (fun v G' Γ' => v = .int .i64 r ∧ G = G' ∧ Γ = Γ')) := by
  refine calls_WP (Γ := Γ) (G := G) (B := B) Tryd.func17 rfl (by kernel_rfl) ?_ hI
  clear hI
  unfold grapevinelaw0_Num at h
  refine WP.seqP [0] (L' := [(0, .int .i64 a0)]) (by kernel_rfl) ?_
  refine WP.seqP [2] (L' := [(2, .int .i64 a0)]) (by kernel_rfl) ?_
  refine WP.ret ?_
  obtain rfl := Option.some.inj h
  exact QP.returned [2] [.int .i64 a0] _ (by kernel_rfl) (by kernel_rfl) (by kernel_rfl) (fun W hI => ⟨_, _, _, rfl, ⟨rfl, rfl, rfl⟩, hI⟩)

/-! ### grapevine/grapevinelaw0.OverBytes: function 18 -/
def grapevinelaw0_OverBytes_l0 : Nat → Int → (List Int) → Option (List Int)
  | 0, _, _ => none
  | k + 1, y3, y4 => (if y3 < (y4.length : Int) then (if 0 ≤ y3 ∧ y3 < (y4.length : Int) then grapevinelaw0_OverBytes_l0 k (IntKind.i64.wrap (y3 + 1)) (y4.set y3.toNat 238) else none) else some y4)
def grapevinelaw0_OverBytes (k : Nat) (l0 : List Int) : Option Unit := ((grapevinelaw0_OverBytes_l0 k 0 l0).bind fun s1 => (if s1.length + ([238] : List Int).length ≤ 1073741824 then some () else none))
set_option maxHeartbeats 4000000 in
theorem grapevinelaw0_OverBytes_calls {B : World} {G : GMap} {Γ : List Chunk} {W : World} (k : Nat) (l0 : List Int) (Al0 : Option Addr) (cl0 : Nat) (Cl0 : Chunk) (Hl0 : Ow (kInt .u8) G Al0 cl0 l0 Cl0) (r : Unit) (h : grapevinelaw0_OverBytes k l0 = some r) (hI : Inv B G (Cl0 :: Γ) W) :
    Calls Tryd.prog 18 [.slice Al0 l0.length cl0].toArray W (Ret B (fun v G' Γ' => v = .tuple #[] ∧ G = G' ∧ Γ = Γ')) := by
  refine calls_WP (Γ := Cl0 :: Γ) (G := G) (B := B) Tryd.func18 rfl (by kernel_rfl) ?_ hI
  clear hI
  unfold grapevinelaw0_OverBytes at h
  refine WP.seq ?_
  refine WP.seqP [0, 2] (L' := [(0, .slice Al0 l0.length cl0), (2, .int .i64 0)]) (by kernel_rfl) ?_
  rw [Option.bind_eq_some_iff] at h
  obtain ⟨os1, h, hk2⟩ := h
  refine WP.cutQ (fun L' G' Γ' => ∃ s1 : (List Int), s1 = os1 ∧ ∃ (As1 : Option Addr), ∃ (cs1 : Nat), ∃ (Cs1 : Chunk), L' = [(0, .slice As1 s1.length cs1)] ∧ G = G' ∧ Cs1 :: Γ = Γ' ∧ Ow (kInt .u8) G As1 cs1 s1 Cs1) ?_ ?_
  · clear hk2
    refine WP.block ?_
    refine WP.pick [0, 2] ?_
    refine WP.loopF (fun kn5 L' G' Γ' => ∃ (y3 : Int), ∃ (y4 : List Int), grapevinelaw0_OverBytes_l0 kn5 y3 y4 = some os1 ∧ ∃ (Ay4 : Option Addr), ∃ (cy4 : Nat), ∃ (Cy4 : Chunk), L' = [(0, .slice Ay4 y4.length cy4), (2, .int .i64 y3)] ∧ G = G' ∧ Cy4 :: Γ = Γ' ∧ Ow (kInt .u8) G Ay4 cy4 y4 Cy4) ?_ k ⟨0, l0, h, Al0, cl0, Cl0, rfl, rfl, rfl, Hl0⟩
    clear h
    rintro kn6 _ _ _ ⟨y3, y4, h, Ay4, cy4, Cy4, rfl, rfl, rfl, Hy4⟩
    cases kn6 with
    | zero => exact absurd h (by simp [grapevinelaw0_OverBytes_l0])
    | succ kn6 =>
      simp only [grapevinelaw0_OverBytes_l0] at h
      refine WP.seq ?_
      refine WP.seqP [0, 2, 6] (L' := [(0, .slice Ay4 y4.length cy4), (2, .int .i64 y3), (6, .bool (decide (y3 < (y4.length : Int))))]) (by kernel_rfl) ?_
      refine WP.cond (b := decide (y3 < (y4.length : Int))) (by kernel_rfl) (fun hc => ?_) (fun hc => ?_)
      · replace hc := of_decide_eq_true hc
        rw [if_pos hc] at h
        have hc7 := hc
        clear hc
        refine WP.skip ?_
        refine QP.next ?_
        refine WP.pick [0, 2] ?_
        refine WP.seq ?_
        refine WP.block ?_
        refine WP.region ?_
        refine WL.pure 0 2 [0, 2, 9, 10] (L' := [(0, .slice Ay4 y4.length cy4), (2, .int .i64 y3), (9, .slice Ay4 y4.length cy4), (10, .int .i64 y3)]) (by kernel_rfl) (by decide) ?_
        by_cases hb8 : 0 ≤ y3 ∧ y3 < (y4.length : Int)
        case neg => rw [if_neg hb8] at h; cases h
        rw [if_pos hb8] at h
        refine WL.tell (op := .indexAddr 29 (.tmp 9) (.tmp 10)) (ty := 0) (d := some 11) (g := none) (by kernel_rfl) (by kernel_rfl) (by kernel_rfl) (Tells.indexAddr (A := Ay4) (n := y4.length) (c := cy4) (k := .i64) (j := y3) (by kernel_rfl) (by kernel_rfl) (Hy4.isSome hb8.1 hb8.2) hb8.1 hb8.2 sl29) ?_
        refine WL.op (op := .store 5 (.tmp 11) (.const (.int .u8 238))) (ty := 0) (d := none) (g := none) (by kernel_rfl) (by kernel_rfl) (by kernel_rfl) (Ow.store Hy4 (i := 0) rfl hb8.1 hb8.2 (z := 238) (v := .int .u8 238) (by kernel_rfl) (by kernel_rfl) sz5 (by exact rfl)) ?_
        rintro _ _ _ ⟨rfl, rfl, C9, Ho10, rfl⟩
        refine WL.reput 0 (v := .slice Ay4 y4.length cy4) (v' := .slice Ay4 (y4.set y3.toNat 238).length cy4) (by kernel_rfl) (by simp only [List.length_set]) ?_
        refine WL.rest 4 [0, 2] (L' := [(0, .slice Ay4 (y4.set y3.toNat 238).length cy4), (2, .int .i64 y3)]) (by kernel_rfl) ?_
        refine QP.blockN ?_
        refine QP.next ?_
        refine WP.pick [0, 2] ?_
        refine WP.regionP [0, 2] (L' := [(0, .slice Ay4 (y4.set y3.toNat 238).length cy4), (2, .int .i64 (IntKind.i64.wrap (y3 + 1)))]) (by kernel_rfl) ?_
        refine QP.pick [0, 2] ?_
        exact QP.meet ⟨kn6, Nat.lt_succ_self _, (IntKind.i64.wrap (y3 + 1)), (y4.set y3.toNat 238), h, Ay4, cy4, C9, rfl, rfl, rfl, Ho10⟩
      · replace hc := of_decide_eq_false hc
        rw [if_neg hc] at h
        have hc7 := hc
        clear hc
        refine WP.exit ?_
        refine QP.thenE ?_
        refine QP.thenE ?_
        refine QP.blockE ?_
        refine QP.pick [0] ?_
        exact QP.meet ⟨_, Option.some.inj h, Ay4, cy4, Cy4, rfl, rfl, rfl, Hy4⟩
  · rintro _ _ _ ⟨s1, rfl, As1, cs1, Cs1, rfl, rfl, rfl, Hs1⟩
    clear h
    replace h := hk2
    refine QP.next ?_
    refine WP.pick [0] ?_
    refine WP.region ?_
    refine WL.pure 0 1 [12] (L' := [(12, .slice As1 s1.length cs1)]) (by kernel_rfl) (by decide) ?_
    refine WL.op (op := .buildSlice 29 1 #[(0, (.const (.int .u8 238)))]) (ty := 29) (d := some 13) (g := none) (by kernel_rfl) (by kernel_rfl) (by kernel_rfl) (Does.new (o := .cells #[.int .u8 238] 5 (0, 0)) (v := fun r => .slice (some ⟨r, 0, none⟩) 1 1) (fun r => by kernel_rfl)) ?_
    rintro _ _ _ ⟨b11, rfl, rfl, rfl⟩
    have Ho13 : Ow (kInt .u8) G (some ⟨b11, 0, none⟩) 1 ([238] : List Int) [(b11, .cells #[.int .u8 238] 5 (0, 0))] := Ow.lit (kd := (kInt .u8)) (G := G) (b := b11) (T := 5) (xs := ([238] : List Int)) (cs := [.int .u8 238]) (.cons (x := 238) (cs := [.int .u8 238]) (by exact rfl) .nil)
    by_cases hb14 : s1.length + ([238] : List Int).length ≤ 1073741824
    case neg => rw [if_neg hb14] at h; cases h
    rw [if_pos hb14] at h
    refine WL.op (op := .call { callee := (.builtin .append), args := #[(.tmp 12), (.tmp 13)], argTypes := #[29, 29] }) (ty := 29) (d := some 14) (g := none) (by kernel_rfl) (by kernel_rfl) (by kernel_rfl) (Ow.append (ys := ([238] : List Int)) (v := .slice (some ⟨b11, 0, none⟩) ([238] : List Int).length 1) Hs1 (i := 1) rfl (by kernel_rfl) (by kernel_rfl) (Ho13.src (i := 0) rfl) sl29 ze5 nt29 (by decide) hb14) ?_
    rintro _ _ _ ⟨rfl, AN15, cN15, CN15, rfl, HN15, rfl⟩
    refine WL.rest 3 [] (L' := []) (by kernel_rfl) ?_
    obtain rfl := Option.some.inj h
    refine QP.dropAt 1 ?_
    refine QP.dropAt 0 ?_
    exact QP.returnedN [] [] _ (by kernel_rfl) (by kernel_rfl) (by kernel_rfl) (fun W hI => ⟨_, _, _, rfl, ⟨rfl, rfl, rfl⟩, hI⟩)
end Go.Proofs.YtjmhhmljldjmjaaDoor.Gf
