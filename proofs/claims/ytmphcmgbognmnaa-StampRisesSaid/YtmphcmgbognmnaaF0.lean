/- Walks of Go functions: what each tells, as a plain Lean function, and that the Go code comes to it. Written by gg.py of this repo. -/
import Derived.Test.YtmphcmgbognmnaaT
namespace Go.Proofs.Ytmphcmgbognmnaa.Gf
open Go Go.Gg
set_option maxRecDepth 100000
set_option linter.unusedVariables false
set_option linter.unusedSimpArgs false

/-! ### grapevine/stamp.wall: function 52 -/
def stamp_wall (a0 : Int) : Option Bool := ((if a0 ≥ 0 then some (decide (a0 ≤ 1099511627776)) else some false).bind fun s1 => some s1)
set_option maxHeartbeats 4000000 in
theorem stamp_wall_calls {B : World} {G : GMap} {Γ : List Chunk} {W : World} (a0 : Int) (r : Bool) (h : stamp_wall a0 = some r) (hI : Inv B G (Γ) W) :
    Calls Try.prog 52 [.int .i64 a0].toArray W (Ret B (fun v G' Γ' => v = .bool r ∧ G = G' ∧ Γ = Γ')) := by
  refine calls_WP (Γ := Γ) (G := G) (B := B) Try.func52 rfl (by kernel_rfl) ?_ hI
  clear hI
  unfold stamp_wall at h
  refine WP.seqP [0] (L' := [(0, .int .i64 a0)]) (by kernel_rfl) ?_
  rw [Option.bind_eq_some_iff] at h
  obtain ⟨os1, h, hk2⟩ := h
  refine WP.cut (fun L' G' Γ' => ∃ s1 : Bool, s1 = os1 ∧ L' = [(2, .bool s1)] ∧ G = G' ∧ Γ = Γ') ?_ ?_
  · clear hk2
    refine WP.region ?_
    refine WL.pure 0 3 [0, 5] (L' := [(0, .int .i64 a0), (5, .bool (decide (a0 ≥ 0)))]) (by kernel_rfl) (by decide) ?_
    refine WL.split 5 (b := decide (a0 ≥ 0)) (by kernel_rfl) (fun hc => ?_) (fun hc => ?_)
    · replace hc := of_decide_eq_true hc
      rw [if_pos hc] at h
      have hc3 := hc
      clear hc
      refine WL.rest 3 [2] (L' := [(2, .bool (decide (a0 ≤ 1099511627776)))]) (by kernel_rfl) ?_
      refine QP.pick [2] ?_
      exact QP.meet ⟨_, Option.some.inj h, rfl, rfl, rfl⟩
    · replace hc := of_decide_eq_false hc
      rw [if_neg hc] at h
      have hc3 := hc
      clear hc
      refine WL.rest 3 [2] (L' := [(2, .bool false)]) (by kernel_rfl) ?_
      refine QP.pick [2] ?_
      exact QP.meet ⟨_, Option.some.inj h, rfl, rfl, rfl⟩
  · rintro _ _ _ ⟨s1, rfl, rfl, rfl, rfl⟩
    clear h
    replace h := hk2
    refine WP.ret ?_
    obtain rfl := Option.some.inj h
    exact QP.returned [2] [.bool s1] _ (by kernel_rfl) (by kernel_rfl) (by kernel_rfl) (fun W hI => ⟨_, _, _, rfl, ⟨rfl, rfl, rfl⟩, hI⟩)

/-! ### grapevine/stamp.May: function 18 -/
def stamp_May (a0 : T23) : Option Bool := (((stamp_wall a0.f0).bind fun t4 => (if t4 = true then (if a0.f1 ≥ 0 then some (decide (a0.f1 ≤ 65535)) else some false) else some false)).bind fun s2 => some s2)
set_option maxHeartbeats 4000000 in
theorem stamp_May_calls {B : World} {G : GMap} {Γ : List Chunk} {W : World} (a0 : T23) (r : Bool) (h : stamp_May a0 = some r) (hI : Inv B G (Γ) W) :
    Calls Try.prog 18 [.agg #[.int .i64 a0.f0, .int .i64 a0.f1]].toArray W (Ret B (fun v G' Γ' => v = .bool r ∧ G = G' ∧ Γ = Γ')) := by
  refine calls_WP (Γ := Γ) (G := G) (B := B) Try.func18 rfl (by kernel_rfl) ?_ hI
  clear hI
  unfold stamp_May at h
  refine WP.seqR ?_
  refine WL.op (op := .box 23 (.tmp 0)) (ty := 0) (d := some 1) (g := none) (by kernel_rfl) (by kernel_rfl) (by kernel_rfl) (Does.new (o := .cells #[.int .i64 a0.f0, .int .i64 a0.f1] 23 (0, 0)) (v := fun r => .pointer (some ⟨r, 0, none⟩)) (fun r => by kernel_rfl)) ?_
  rintro _ _ _ ⟨b1, rfl, rfl, rfl⟩
  refine WL.restQ 1 [1] (L' := [(1, .pointer (some ⟨b1, 0, none⟩))]) (by kernel_rfl) ?_
  rw [Option.bind_eq_some_iff] at h
  obtain ⟨os2, h, hk3⟩ := h
  refine WP.cut (fun L' G' Γ' => ∃ s2 : Bool, s2 = os2 ∧ L' = [(2, .bool s2)] ∧ G = G' ∧ [(b1, .cells #[.int .i64 a0.f0, .int .i64 a0.f1] 23 (0, 0))] :: Γ = Γ') ?_ ?_
  · clear hk3
    refine WP.region ?_
    refine WL.pure 0 1 [1, 3] (L' := [(1, .pointer (some ⟨b1, 0, none⟩)), (3, .pointer (some ⟨b1, 0, none⟩))]) (by kernel_rfl) (by decide) ?_
    refine WL.tell (op := .load 3 (.tmp 3)) (ty := 3) (d := some 4) (g := none) (by kernel_rfl) (by kernel_rfl) (by kernel_rfl) (Tells.load_box (i := 0) (b := b1) (o := 0) (agg := false) (by rfl) ag3 (by kernel_rfl) (fun _ => rfl) (Nat.le_of_ble_eq_true rfl) (v := .int .i64 a0.f0) (by kernel_rfl)) ?_
    rw [Option.bind_eq_some_iff] at h
    obtain ⟨t4, ht5, h⟩ := h
    refine WL.op (op := .call { callee := (.value (.func 52)), args := #[(.tmp 4)], argTypes := #[3] }) (ty := 4) (d := some 5) (g := none) (by kernel_rfl) (by kernel_rfl) (by kernel_rfl) (Does.call (f := 52) (args := [.int .i64 a0.f0]) (by kernel_rfl) (fun W hI => (stamp_wall_calls a0.f0  t4 ht5 hI))) ?_
    rintro _ _ _ ⟨rfl, rfl, rfl⟩
    refine WL.pure 3 4 [1, 6] (L' := [(1, .pointer (some ⟨b1, 0, none⟩)), (6, .bool t4)]) (by kernel_rfl) (by decide) ?_
    refine WL.split 6 (b := t4) (by kernel_rfl) (fun hc => ?_) (fun hc => ?_)
    · replace hc := hc
      rw [if_pos hc] at h
      have hc8 := hc
      clear hc
      refine WL.pure 4 5 [1, 6, 7] (L' := [(1, .pointer (some ⟨b1, 0, none⟩)), (6, .bool true), (7, .pointer (some ⟨b1, 1, none⟩))]) (by kernel_rfl) (by decide) ?_
      refine WL.tell (op := .load 3 (.tmp 7)) (ty := 3) (d := some 8) (g := some (3, true)) (by kernel_rfl) (by kernel_rfl) (by kernel_rfl) (Tells.load_box (i := 0) (b := b1) (o := 1) (agg := false) (by rfl) ag3 (by kernel_rfl) (fun _ => rfl) (Nat.le_of_ble_eq_true rfl) (v := .int .i64 a0.f1) (by kernel_rfl)) ?_
      refine WL.pure 6 9 [1, 11] (L' := [(1, .pointer (some ⟨b1, 0, none⟩)), (11, .bool (decide (a0.f1 ≥ 0)))]) (by kernel_rfl) (by decide) ?_
      refine WL.split 11 (b := decide (a0.f1 ≥ 0)) (by kernel_rfl) (fun hc => ?_) (fun hc => ?_)
      · replace hc := of_decide_eq_true hc
        rw [if_pos hc] at h
        have hc9 := hc
        clear hc
        refine WL.pure 9 10 [11, 12] (L' := [(11, .bool true), (12, .pointer (some ⟨b1, 1, none⟩))]) (by kernel_rfl) (by decide) ?_
        refine WL.tell (op := .load 3 (.tmp 12)) (ty := 3) (d := some 13) (g := some (8, true)) (by kernel_rfl) (by kernel_rfl) (by kernel_rfl) (Tells.load_box (i := 0) (b := b1) (o := 1) (agg := false) (by rfl) ag3 (by kernel_rfl) (fun _ => rfl) (Nat.le_of_ble_eq_true rfl) (v := .int .i64 a0.f1) (by kernel_rfl)) ?_
        refine WL.rest 11 [2] (L' := [(2, .bool (decide (a0.f1 ≤ 65535)))]) (by kernel_rfl) ?_
        refine QP.pick [2] ?_
        exact QP.meet ⟨_, Option.some.inj h, rfl, rfl, rfl⟩
      · replace hc := of_decide_eq_false hc
        rw [if_neg hc] at h
        have hc9 := hc
        clear hc
        refine WL.rest 9 [2] (L' := [(2, .bool false)]) (by kernel_rfl) ?_
        refine QP.pick [2] ?_
        exact QP.meet ⟨_, Option.some.inj h, rfl, rfl, rfl⟩
    · replace hc := (Bool.eq_false_iff.1 hc)
      rw [if_neg hc] at h
      have hc8 := hc
      clear hc
      refine WL.rest 4 [2] (L' := [(2, .bool false)]) (by kernel_rfl) ?_
      refine QP.pick [2] ?_
      exact QP.meet ⟨_, Option.some.inj h, rfl, rfl, rfl⟩
  · rintro _ _ _ ⟨s2, rfl, rfl, rfl, rfl⟩
    clear h
    replace h := hk3
    refine WP.ret ?_
    obtain rfl := Option.some.inj h
    refine QP.dropAt 0 ?_
    exact QP.returned [2] [.bool s2] _ (by kernel_rfl) (by kernel_rfl) (by kernel_rfl) (fun W hI => ⟨_, _, _, rfl, ⟨rfl, rfl, rfl⟩, hI⟩)

/-! ### grapevine/stamp.New: function 24 -/
def stamp_New (a0 : T23) : Option (Option T81) := ((stamp_May a0).bind fun t2 => (if (!t2) = true then some none else some (some (⟨a0.f0, a0.f1⟩ : T81))))
set_option maxHeartbeats 4000000 in
theorem stamp_New_calls {B : World} {G : GMap} {Γ : List Chunk} {W : World} (a0 : T23) (r : Option T81) (h : stamp_New a0 = some r) (hI : Inv B G (Γ) W) :
    Calls Try.prog 24 [.agg #[.int .i64 a0.f0, .int .i64 a0.f1]].toArray W (Ret B (fun v G' Γ' => (r = none ∧ v = .pointer none ∧ G = G' ∧ Γ = Γ') ∨ (∃ (x : T81), r = some x ∧ ∃ (bR : Nat), v = .pointer (some ⟨bR, 0, none⟩) ∧ G = G' ∧ [(bR, .cells #[.int .i64 x.f0, .int .i64 x.f1] 81 (0, 0))] :: Γ = Γ'))) := by
  refine calls_WP (Γ := Γ) (G := G) (B := B) Try.func24 rfl (by kernel_rfl) ?_ hI
  clear hI
  unfold stamp_New at h
  refine WP.seqR ?_
  refine WL.op (op := .box 23 (.tmp 0)) (ty := 0) (d := some 1) (g := none) (by kernel_rfl) (by kernel_rfl) (by kernel_rfl) (Does.new (o := .cells #[.int .i64 a0.f0, .int .i64 a0.f1] 23 (0, 0)) (v := fun r => .pointer (some ⟨r, 0, none⟩)) (fun r => by kernel_rfl)) ?_
  rintro _ _ _ ⟨b1, rfl, rfl, rfl⟩
  refine WL.restQ 1 [1] (L' := [(1, .pointer (some ⟨b1, 0, none⟩))]) (by kernel_rfl) ?_
  refine WP.seq ?_
  refine WP.seqR ?_
  refine WL.tell (op := .load 23 (.tmp 1)) (ty := 23) (d := some 3) (g := none) (by kernel_rfl) (by kernel_rfl) (by kernel_rfl) (Tells.load_box (i := 0) (b := b1) (o := 0) (agg := true) (by rfl) ag23 (by kernel_rfl) (fun h => by cases h) (Nat.le_of_ble_eq_true rfl) (v := .agg #[.int .i64 a0.f0, .int .i64 a0.f1]) (by kernel_rfl)) ?_
  rw [Option.bind_eq_some_iff] at h
  obtain ⟨t2, ht3, h⟩ := h
  refine WL.op (op := .call { callee := (.value (.func 18)), args := #[(.tmp 3)], argTypes := #[23] }) (ty := 4) (d := some 4) (g := none) (by kernel_rfl) (by kernel_rfl) (by kernel_rfl) (Does.call (f := 18) (args := [.agg #[.int .i64 a0.f0, .int .i64 a0.f1]]) (by kernel_rfl) (fun W hI => (stamp_May_calls a0  t2 ht3 hI))) ?_
  rintro _ _ _ ⟨rfl, rfl, rfl⟩
  refine WL.restQ 2 [1, 5] (L' := [(1, .pointer (some ⟨b1, 0, none⟩)), (5, .bool (!t2))]) (by kernel_rfl) ?_
  refine WP.cond (b := (!t2)) (by kernel_rfl) (fun hc => ?_) (fun hc => ?_)
  · replace hc := hc
    rw [if_pos hc] at h
    have hc6 := hc
    clear hc
    refine WP.seqP [2] (L' := [(2, .pointer none)]) (by kernel_rfl) ?_
    refine WP.dropAt 0 ?_
    refine WP.ret ?_
    refine QP.thenR ?_
    obtain rfl := Option.some.inj h
    exact QP.returned [2] [.pointer none] _ (by kernel_rfl) (by kernel_rfl) (by kernel_rfl) (fun W hI => ⟨_, _, _, rfl, (Or.inl ⟨rfl, ⟨rfl, rfl, rfl⟩⟩), hI⟩)
  · replace hc := (Bool.eq_false_iff.1 hc)
    rw [if_neg hc] at h
    have hc6 := hc
    clear hc
    refine WP.skip ?_
    refine QP.next ?_
    refine WP.pick [1] ?_
    refine WP.seqR ?_
    refine WL.tell (op := .load 23 (.tmp 1)) (ty := 23) (d := some 6) (g := none) (by kernel_rfl) (by kernel_rfl) (by kernel_rfl) (Tells.load_box (i := 0) (b := b1) (o := 0) (agg := true) (by rfl) ag23 (by kernel_rfl) (fun h => by cases h) (Nat.le_of_ble_eq_true rfl) (v := .agg #[.int .i64 a0.f0, .int .i64 a0.f1]) (by kernel_rfl)) ?_
    refine WL.pure 1 2 [7] (L' := [(7, .agg #[.int .i64 a0.f0, .int .i64 a0.f1])]) (by kernel_rfl) (by decide) ?_
    refine WL.op (op := .box 81 (.tmp 7)) (ty := 30) (d := some 8) (g := none) (by kernel_rfl) (by kernel_rfl) (by kernel_rfl) (Does.new (o := .cells #[.int .i64 a0.f0, .int .i64 a0.f1] 81 (0, 0)) (v := fun r => .pointer (some ⟨r, 0, none⟩)) (fun r => by kernel_rfl)) ?_
    rintro _ _ _ ⟨b7, rfl, rfl, rfl⟩
    refine WL.restQ 3 [2] (L' := [(2, .pointer (some ⟨b7, 0, none⟩))]) (by kernel_rfl) ?_
    refine WP.dropAt 1 ?_
    refine WP.ret ?_
    obtain rfl := Option.some.inj h
    exact QP.returned [2] [.pointer (some ⟨b7, 0, none⟩)] _ (by kernel_rfl) (by kernel_rfl) (by kernel_rfl) (fun W hI => ⟨_, _, _, rfl, (Or.inr ⟨_, rfl, ⟨b7, rfl, rfl, rfl⟩⟩), hI⟩)

/-! ### (*grapevine/stamp.Clock).set: function 54 -/
def stamp_Clock_set (a0 : T81) (a1 : T23) : Option (Int × T81) := (if a1.f1 > 65535 then some (4, a0) else some (0, (⟨a1.f0, a1.f1⟩ : T81)))
set_option maxHeartbeats 4000000 in
theorem stamp_Clock_set_calls {B : World} {G : GMap} {Γ : List Chunk} {W : World} (a0 : T81) (a1 : T23) (b0 : Nat) (r : Int × T81) (h : stamp_Clock_set a0 a1 = some r) (hI : Inv B G ([(b0, .cells #[.int .i64 a0.f0, .int .i64 a0.f1] 81 (0, 0))] :: Γ) W) :
    Calls Try.prog 54 [.pointer (some ⟨b0, 0, none⟩), .agg #[.int .i64 a1.f0, .int .i64 a1.f1]].toArray W (Ret B (fun v G' Γ' => v = .int .i64 r.1 ∧ G = G' ∧ [(b0, .cells #[.int .i64 r.2.f0, .int .i64 r.2.f1] 81 (0, 0))] :: Γ = Γ')) := by
  refine calls_WP (Γ := [(b0, .cells #[.int .i64 a0.f0, .int .i64 a0.f1] 81 (0, 0))] :: Γ) (G := G) (B := B) Try.func54 rfl (by kernel_rfl) ?_ hI
  clear hI
  unfold stamp_Clock_set at h
  refine WP.seqR ?_
  refine WL.op (op := .box 23 (.tmp 1)) (ty := 0) (d := some 3) (g := none) (by kernel_rfl) (by kernel_rfl) (by kernel_rfl) (Does.new (o := .cells #[.int .i64 a1.f0, .int .i64 a1.f1] 23 (0, 0)) (v := fun r => .pointer (some ⟨r, 0, none⟩)) (fun r => by kernel_rfl)) ?_
  rintro _ _ _ ⟨b1, rfl, rfl, rfl⟩
  refine WL.restQ 1 [0, 3] (L' := [(0, .pointer (some ⟨b0, 0, none⟩)), (3, .pointer (some ⟨b1, 0, none⟩))]) (by kernel_rfl) ?_
  refine WP.seq ?_
  refine WP.seqR ?_
  refine WL.pure 0 1 [0, 3, 5] (L' := [(0, .pointer (some ⟨b0, 0, none⟩)), (3, .pointer (some ⟨b1, 0, none⟩)), (5, .pointer (some ⟨b1, 1, none⟩))]) (by kernel_rfl) (by decide) ?_
  refine WL.tell (op := .load 3 (.tmp 5)) (ty := 3) (d := some 6) (g := none) (by kernel_rfl) (by kernel_rfl) (by kernel_rfl) (Tells.load_box (i := 0) (b := b1) (o := 1) (agg := false) (by rfl) ag3 (by kernel_rfl) (fun _ => rfl) (Nat.le_of_ble_eq_true rfl) (v := .int .i64 a1.f1) (by kernel_rfl)) ?_
  refine WL.restQ 2 [0, 3, 7] (L' := [(0, .pointer (some ⟨b0, 0, none⟩)), (3, .pointer (some ⟨b1, 0, none⟩)), (7, .bool (decide (a1.f1 > 65535)))]) (by kernel_rfl) ?_
  refine WP.cond (b := decide (a1.f1 > 65535)) (by kernel_rfl) (fun hc => ?_) (fun hc => ?_)
  · replace hc := of_decide_eq_true hc
    rw [if_pos hc] at h
    have hc2 := hc
    clear hc
    refine WP.seqP [4] (L' := [(4, .int .i64 4)]) (by kernel_rfl) ?_
    refine WP.dropAt 0 ?_
    refine WP.ret ?_
    refine QP.thenR ?_
    obtain rfl := Option.some.inj h
    exact QP.returned [4] [.int .i64 4] _ (by kernel_rfl) (by kernel_rfl) (by kernel_rfl) (fun W hI => ⟨_, _, _, rfl, ⟨rfl, rfl, rfl⟩, hI⟩)
  · replace hc := of_decide_eq_false hc
    rw [if_neg hc] at h
    have hc2 := hc
    clear hc
    refine WP.skip ?_
    refine QP.next ?_
    refine WP.pick [0, 3] ?_
    refine WP.seqR ?_
    refine WL.pure 0 1 [3, 8] (L' := [(3, .pointer (some ⟨b1, 0, none⟩)), (8, .pointer (some ⟨b0, 0, none⟩))]) (by kernel_rfl) (by decide) ?_
    refine WL.tell (op := .load 23 (.tmp 3)) (ty := 23) (d := some 9) (g := none) (by kernel_rfl) (by kernel_rfl) (by kernel_rfl) (Tells.load_box (i := 0) (b := b1) (o := 0) (agg := true) (by rfl) ag23 (by kernel_rfl) (fun h => by cases h) (Nat.le_of_ble_eq_true rfl) (v := .agg #[.int .i64 a1.f0, .int .i64 a1.f1]) (by kernel_rfl)) ?_
    refine WL.pure 2 4 [9, 11] (L' := [(9, .agg #[.int .i64 a1.f0, .int .i64 a1.f1]), (11, .pointer (some ⟨b0, 0, none⟩))]) (by kernel_rfl) (by decide) ?_
    refine WL.op (op := .store 23 (.tmp 11) (.tmp 9)) (ty := 0) (d := none) (g := none) (by kernel_rfl) (by kernel_rfl) (by kernel_rfl) (Does.store_box (i := 1) (b := b0) (o := 0) (v := .agg #[.int .i64 a1.f0, .int .i64 a1.f1]) (by rfl) sz23 (by kernel_rfl) (by kernel_rfl) (by kernel_rfl) (Free.zero _) (Nat.le_of_ble_eq_true rfl) (cells' := #[.int .i64 a1.f0, .int .i64 a1.f1]) (by kernel_rfl)) ?_
    rintro _ _ _ ⟨rfl, rfl, rfl⟩
    refine WL.restQ 5 [] (L' := []) (by kernel_rfl) ?_
    refine WP.dropAt 0 ?_
    refine WP.seqP [4] (L' := [(4, .int .i64 0)]) (by kernel_rfl) ?_
    refine WP.ret ?_
    obtain rfl := Option.some.inj h
    exact QP.returned [4] [.int .i64 0] _ (by kernel_rfl) (by kernel_rfl) (by kernel_rfl) (fun W hI => ⟨_, _, _, rfl, ⟨rfl, rfl, rfl⟩, hI⟩)

/-! ### (*grapevine/stamp.Clock).Tick: function 29 -/
def stamp_Clock_Tick (a0 : T81) (a1 : Int) : Option (T23 × Int × T81) := ((stamp_wall a1).bind fun t2 => (if (!t2) = true then some ((⟨0, 0⟩ : T23), 2, a0) else (if a1 > a0.f0 then ((stamp_Clock_set a0 (⟨a1, 0⟩ : T23)).bind fun t9 => (if ¬ t9.1 = 0 then some ((⟨0, 0⟩ : T23), t9.1, t9.2) else some ((⟨a1, 0⟩ : T23), 0, t9.2))) else ((stamp_Clock_set a0 (⟨a0.f0, IntKind.i64.wrap (a0.f1 + 1)⟩ : T23)).bind fun t14 => (if ¬ t14.1 = 0 then some ((⟨0, 0⟩ : T23), t14.1, t14.2) else some ((⟨a0.f0, IntKind.i64.wrap (a0.f1 + 1)⟩ : T23), 0, t14.2))))))
set_option maxHeartbeats 4000000 in
theorem stamp_Clock_Tick_calls {B : World} {G : GMap} {Γ : List Chunk} {W : World} (a0 : T81) (a1 : Int) (b0 : Nat) (r : T23 × Int × T81) (h : stamp_Clock_Tick a0 a1 = some r) (hI : Inv B G ([(b0, .cells #[.int .i64 a0.f0, .int .i64 a0.f1] 81 (0, 0))] :: Γ) W) :
    Calls Try.prog 29 [.pointer (some ⟨b0, 0, none⟩), .int .i64 a1].toArray W (Ret B (fun v G' Γ' => v = .tuple #[.agg #[.int .i64 r.1.f0, .int .i64 r.1.f1], .int .i64 r.2.1] ∧ G = G' ∧ [(b0, .cells #[.int .i64 r.2.2.f0, .int .i64 r.2.2.f1] 81 (0, 0))] :: Γ = Γ')) := by
  refine calls_WP (Γ := [(b0, .cells #[.int .i64 a0.f0, .int .i64 a0.f1] 81 (0, 0))] :: Γ) (G := G) (B := B) Try.func29 rfl (by kernel_rfl) ?_ hI
  clear hI
  unfold stamp_Clock_Tick at h
  refine WP.seqR ?_
  refine WL.op (op := .alloc 23) (ty := 0) (d := some 4) (g := none) (by kernel_rfl) (by kernel_rfl) (by kernel_rfl) (Does.new (o := .cells #[.int .i64 0, .int .i64 0] 23 (0, 0)) (v := fun r => .pointer (some ⟨r, 0, none⟩)) (fun r => by kernel_rfl)) ?_
  rintro _ _ _ ⟨b1, rfl, rfl, rfl⟩
  refine WL.restQ 1 [0, 1, 4] (L' := [(0, .pointer (some ⟨b0, 0, none⟩)), (1, .int .i64 a1), (4, .pointer (some ⟨b1, 0, none⟩))]) (by kernel_rfl) ?_
  refine WP.seq ?_
  refine WP.block ?_
  refine WP.seqP [0, 1, 4, 8] (L' := [(0, .pointer (some ⟨b0, 0, none⟩)), (1, .int .i64 a1), (4, .pointer (some ⟨b1, 0, none⟩)), (8, .bool false)]) (by kernel_rfl) ?_
  refine WP.no (by kernel_rfl) ?_
  refine WP.seqR ?_
  refine WL.pure 0 1 [0, 1, 4, 13] (L' := [(0, .pointer (some ⟨b0, 0, none⟩)), (1, .int .i64 a1), (4, .pointer (some ⟨b1, 0, none⟩)), (13, .int .i64 a1)]) (by kernel_rfl) (by decide) ?_
  rw [Option.bind_eq_some_iff] at h
  obtain ⟨t2, ht3, h⟩ := h
  refine WL.op (op := .call { callee := (.value (.func 52)), args := #[(.tmp 13)], argTypes := #[3] }) (ty := 4) (d := some 14) (g := none) (by kernel_rfl) (by kernel_rfl) (by kernel_rfl) (Does.call (f := 52) (args := [.int .i64 a1]) (by kernel_rfl) (fun W hI => (stamp_wall_calls a1  t2 ht3 hI))) ?_
  rintro _ _ _ ⟨rfl, rfl, rfl⟩
  refine WL.restQ 2 [0, 1, 4, 12] (L' := [(0, .pointer (some ⟨b0, 0, none⟩)), (1, .int .i64 a1), (4, .pointer (some ⟨b1, 0, none⟩)), (12, .bool (!t2))]) (by kernel_rfl) ?_
  refine WP.cond (b := (!t2)) (by kernel_rfl) (fun hc => ?_) (fun hc => ?_)
  · replace hc := hc
    rw [if_pos hc] at h
    have hc6 := hc
    clear hc
    refine WP.seqR ?_
    refine WL.pure 0 1 [4, 16] (L' := [(4, .pointer (some ⟨b1, 0, none⟩)), (16, .agg #[.int .i64 0, .int .i64 0])]) (by kernel_rfl) (by decide) ?_
    refine WL.op (op := .store 23 (.tmp 4) (.tmp 16)) (ty := 0) (d := none) (g := none) (by kernel_rfl) (by kernel_rfl) (by kernel_rfl) (Does.store_box (i := 0) (b := b1) (o := 0) (v := .agg #[.int .i64 0, .int .i64 0]) (by rfl) sz23 (by kernel_rfl) (by kernel_rfl) (by kernel_rfl) (Free.zero _) (Nat.le_of_ble_eq_true rfl) (cells' := #[.int .i64 0, .int .i64 0]) (by kernel_rfl)) ?_
    rintro _ _ _ ⟨rfl, rfl, rfl⟩
    refine WL.restQ 2 [4, 5] (L' := [(4, .pointer (some ⟨b1, 0, none⟩)), (5, .int .i64 2)]) (by kernel_rfl) ?_
    refine WP.ret ?_
    refine QP.blockR ?_
    refine QP.thenR ?_
    obtain rfl := Option.some.inj h
    refine QP.front (i := 1) rfl ?_
    exact QP.returnedM (rs := [.cell 4 23, .tmp 5]) (by kernel_rfl) (ResAll.cons (Res1.box (p := 4) (i := 1) (o := 0) (agg := true) (by rfl) ag23 (by kernel_rfl) (fun h => by cases h) (Nat.le_of_ble_eq_true rfl) (v := .agg #[.int .i64 0, .int .i64 0]) (by kernel_rfl)) (ResAll.cons (Res1.tmp (t := 5) (v := .int .i64 2) (by kernel_rfl)) ResAll.nil)) (by kernel_rfl) (fun W hI => ⟨_, _, _, rfl, ⟨rfl, rfl, rfl⟩, (hI.less 1 rfl)⟩)
  · replace hc := (Bool.eq_false_iff.1 hc)
    rw [if_neg hc] at h
    have hc6 := hc
    clear hc
    refine WP.skip ?_
    refine QP.blockN ?_
    refine QP.next ?_
    refine WP.pick [0, 1, 4] ?_
    refine WP.seq ?_
    refine WP.any (N := 14) (S := [⟨some 17, [0], []⟩, ⟨some 18, [17], [0]⟩, ⟨some 19, [18], [1]⟩, ⟨some 20, [19], [2]⟩, ⟨some 21, [20], [3]⟩, ⟨some 22, [0], []⟩, ⟨some 23, [22], [5]⟩, ⟨some 24, [23], [6]⟩, ⟨some 25, [24], [7]⟩, ⟨some 26, [25], [8]⟩, ⟨some 27, [26], [9]⟩, ⟨some 28, [21, 27], [4, 10]⟩, ⟨some 6, [], []⟩, ⟨none, [6, 28], [0, 1, 2, 3, 4, 5, 6, 7, 8, 9, 10, 11, 12]⟩]) (kw := 13) (G0 := G) (Γ0 := [(b1, .cells #[.int .i64 0, .int .i64 0] 23 (0, 0))] :: [(b0, .cells #[.int .i64 a0.f0, .int .i64 a0.f1] 81 (0, 0))] :: Γ) mo (by kernel_rfl) (fun hS => ?_)
    refine WA.pure [0, 1, 2, 3, 5, 6, 7, 8] [0, 1, 4, 20, 25] (m := 6) (b' := 495) (L' := [(0, .pointer (some ⟨b0, 0, none⟩)), (1, .int .i64 a1), (4, .pointer (some ⟨b1, 0, none⟩)), (20, .pointer (some ⟨b0, 0, none⟩)), (25, .pointer (some ⟨b0, 1, none⟩))]) (by kernel_rfl) (NoPanic.then (NoPanic.body)) Under.refl hS (by kernel_rfl) ?_
    refine WA.tellD [13] (i := 4) (m := 5) (b' := 511) (by kernel_rfl) (NoPanic.then (NoPanic.body)) Under.refl hS (by kernel_rfl) (op := .load 3 (.tmp 20)) (ty := 3) (d := some 21) (g := none) (by kernel_rfl) (by kernel_rfl) (by kernel_rfl) (Tells.load_box (i := 1) (b := b0) (o := 0) (agg := false) (by rfl) ag3 (by kernel_rfl) (fun _ => rfl) (Nat.le_of_ble_eq_true rfl) (v := .int .i64 a0.f0) (by kernel_rfl)) ?_
    refine WA.tellD [13] (i := 9) (m := 4) (b' := 1023) (by kernel_rfl) (NoPanic.then (NoPanic.body)) Under.refl hS (by kernel_rfl) (op := .load 3 (.tmp 25)) (ty := 3) (d := some 26) (g := none) (by kernel_rfl) (by kernel_rfl) (by kernel_rfl) (Tells.load_box (i := 1) (b := b0) (o := 1) (agg := false) (by rfl) ag3 (by kernel_rfl) (fun _ => rfl) (Nat.le_of_ble_eq_true rfl) (v := .int .i64 a0.f1) (by kernel_rfl)) ?_
    refine WA.pure [10, 11] [0, 1, 4, 28] (m := 2) (b' := 4095) (L' := [(0, .pointer (some ⟨b0, 0, none⟩)), (1, .int .i64 a1), (4, .pointer (some ⟨b1, 0, none⟩)), (28, .agg #[.int .i64 a0.f0, .int .i64 (IntKind.i64.wrap (a0.f1 + 1))])]) (by kernel_rfl) (NoPanic.then (NoPanic.body)) Under.refl hS (by kernel_rfl) ?_
    refine WA.op (i := 12) (m := 1) (b' := 8191) (by kernel_rfl) hS (by kernel_rfl) (op := .alloc 23) (ty := 0) (d := some 6) (g := none) (by kernel_rfl) (by kernel_rfl) (by kernel_rfl) (Does.new (o := .cells #[.int .i64 0, .int .i64 0] 23 (0, 0)) (v := fun r => .pointer (some ⟨r, 0, none⟩)) (fun r => by kernel_rfl)) ?_
    rintro _ _ _ ⟨b7, rfl, rfl, rfl⟩
    refine ⟨_, _, Under.cons Under.refl, Under.refl, ?_⟩
    refine WA.opK (i := 13) (kw' := 14) (m := 0) (b' := 16383) (by kernel_rfl) rfl hS (by kernel_rfl) (op := .store 23 (.tmp 6) (.tmp 28)) (ty := 0) (d := none) (g := none) (by kernel_rfl) (by kernel_rfl) (by kernel_rfl) (Does.store_box (i := 0) (b := b7) (o := 0) (v := .agg #[.int .i64 a0.f0, .int .i64 (IntKind.i64.wrap (a0.f1 + 1))]) (by rfl) sz23 (by kernel_rfl) (by kernel_rfl) (by kernel_rfl) (Free.zero _) (Nat.le_of_ble_eq_true rfl) (cells' := #[.int .i64 a0.f0, .int .i64 (IntKind.i64.wrap (a0.f1 + 1))]) (by kernel_rfl)) ?_
    rintro _ _ _ ⟨rfl, rfl, rfl⟩
    refine ⟨_, _, Under.refl, ?_⟩
    refine WA.done hS (by kernel_rfl) ?_
    refine QP.pick [0, 1, 4, 6] ?_
    refine QP.next ?_
    refine WP.seq ?_
    refine WP.seqR ?_
    refine WL.pure 0 5 [0, 1, 4, 6, 29, 33] (L' := [(0, .pointer (some ⟨b0, 0, none⟩)), (1, .int .i64 a1), (4, .pointer (some ⟨b1, 0, none⟩)), (6, .pointer (some ⟨b7, 0, none⟩)), (29, .int .i64 a1), (33, .pointer (some ⟨b0, 0, none⟩))]) (by kernel_rfl) (by decide) ?_
    refine WL.tell (op := .load 3 (.tmp 33)) (ty := 3) (d := some 34) (g := none) (by kernel_rfl) (by kernel_rfl) (by kernel_rfl) (Tells.load_box (i := 2) (b := b0) (o := 0) (agg := false) (by rfl) ag3 (by kernel_rfl) (fun _ => rfl) (Nat.le_of_ble_eq_true rfl) (v := .int .i64 a0.f0) (by kernel_rfl)) ?_
    refine WL.restQ 6 [0, 1, 4, 6, 35] (L' := [(0, .pointer (some ⟨b0, 0, none⟩)), (1, .int .i64 a1), (4, .pointer (some ⟨b1, 0, none⟩)), (6, .pointer (some ⟨b7, 0, none⟩)), (35, .bool (decide (a1 > a0.f0)))]) (by kernel_rfl) ?_
    refine WP.cond (b := decide (a1 > a0.f0)) (by kernel_rfl) (fun hc => ?_) (fun hc => ?_)
    · replace hc := of_decide_eq_true hc
      rw [if_pos hc] at h
      have hc8 := hc
      clear hc
      refine WP.region ?_
      refine WL.pure 0 2 [0, 4, 6, 37] (L' := [(0, .pointer (some ⟨b0, 0, none⟩)), (4, .pointer (some ⟨b1, 0, none⟩)), (6, .pointer (some ⟨b7, 0, none⟩)), (37, .agg #[.int .i64 a1, .int .i64 0])]) (by kernel_rfl) (by decide) ?_
      refine WL.op (op := .store 23 (.tmp 6) (.tmp 37)) (ty := 0) (d := none) (g := none) (by kernel_rfl) (by kernel_rfl) (by kernel_rfl) (Does.store_box (i := 0) (b := b7) (o := 0) (v := .agg #[.int .i64 a1, .int .i64 0]) (by rfl) sz23 (by kernel_rfl) (by kernel_rfl) (by kernel_rfl) (Free.zero _) (Nat.le_of_ble_eq_true rfl) (cells' := #[.int .i64 a1, .int .i64 0]) (by kernel_rfl)) ?_
      rintro _ _ _ ⟨rfl, rfl, rfl⟩
      refine WL.rest 3 [0, 4, 6] (L' := [(0, .pointer (some ⟨b0, 0, none⟩)), (4, .pointer (some ⟨b1, 0, none⟩)), (6, .pointer (some ⟨b7, 0, none⟩))]) (by kernel_rfl) ?_
      refine QP.next ?_
      refine WP.pick [0, 4, 6] ?_
      refine WP.seq ?_
      refine WP.seqR ?_
      refine WL.pure 0 1 [4, 6, 38] (L' := [(4, .pointer (some ⟨b1, 0, none⟩)), (6, .pointer (some ⟨b7, 0, none⟩)), (38, .pointer (some ⟨b0, 0, none⟩))]) (by kernel_rfl) (by decide) ?_
      refine WL.tell (op := .load 23 (.tmp 6)) (ty := 23) (d := some 39) (g := none) (by kernel_rfl) (by kernel_rfl) (by kernel_rfl) (Tells.load_box (i := 0) (b := b7) (o := 0) (agg := true) (by rfl) ag23 (by kernel_rfl) (fun h => by cases h) (Nat.le_of_ble_eq_true rfl) (v := .agg #[.int .i64 a1, .int .i64 0]) (by kernel_rfl)) ?_
      refine WL.front (i := 2) rfl ?_
      rw [Option.bind_eq_some_iff] at h
      obtain ⟨t9, ht10, h⟩ := h
      refine WL.op (op := .call { callee := (.value (.func 54)), args := #[(.tmp 38), (.tmp 39)], argTypes := #[30, 23] }) (ty := 41) (d := some 40) (g := none) (by kernel_rfl) (by kernel_rfl) (by kernel_rfl) (Does.call (f := 54) (args := [.pointer (some ⟨b0, 0, none⟩), .agg #[.int .i64 a1, .int .i64 0]]) (by kernel_rfl) (fun W hI => (stamp_Clock_set_calls a0 (⟨a1, 0⟩ : T23) b0 t9 ht10 hI))) ?_
      rintro _ _ _ ⟨rfl, rfl, rfl⟩
      refine WL.restQ 3 [4, 6, 7] (L' := [(4, .pointer (some ⟨b1, 0, none⟩)), (6, .pointer (some ⟨b7, 0, none⟩)), (7, .int .i64 t9.1)]) (by kernel_rfl) ?_
      refine WP.seqP [4, 6, 7, 42] (L' := [(4, .pointer (some ⟨b1, 0, none⟩)), (6, .pointer (some ⟨b7, 0, none⟩)), (7, .int .i64 t9.1), (42, .bool (t9.1 != 0))]) (by kernel_rfl) ?_
      refine WP.cond (b := (t9.1 != 0)) (by kernel_rfl) (fun hc => ?_) (fun hc => ?_)
      · replace hc := (bne_iff_ne.1 hc)
        rw [if_pos hc] at h
        have hc13 := hc
        clear hc
        refine WP.seqR ?_
        refine WL.pure 0 2 [4, 43, 44] (L' := [(4, .pointer (some ⟨b1, 0, none⟩)), (43, .agg #[.int .i64 0, .int .i64 0]), (44, .int .i64 t9.1)]) (by kernel_rfl) (by decide) ?_
        refine WL.op (op := .store 23 (.tmp 4) (.tmp 43)) (ty := 0) (d := none) (g := none) (by kernel_rfl) (by kernel_rfl) (by kernel_rfl) (Does.store_box (i := 2) (b := b1) (o := 0) (v := .agg #[.int .i64 0, .int .i64 0]) (by rfl) sz23 (by kernel_rfl) (by kernel_rfl) (by kernel_rfl) (Free.zero _) (Nat.le_of_ble_eq_true rfl) (cells' := #[.int .i64 0, .int .i64 0]) (by kernel_rfl)) ?_
        rintro _ _ _ ⟨rfl, rfl, rfl⟩
        refine WL.restQ 3 [4, 5] (L' := [(4, .pointer (some ⟨b1, 0, none⟩)), (5, .int .i64 t9.1)]) (by kernel_rfl) ?_
        refine WP.dropAt 1 ?_
        refine WP.ret ?_
        refine QP.thenR ?_
        obtain rfl := Option.some.inj h
        exact QP.returnedM (rs := [.cell 4 23, .tmp 5]) (by kernel_rfl) (ResAll.cons (Res1.box (p := 4) (i := 1) (o := 0) (agg := true) (by rfl) ag23 (by kernel_rfl) (fun h => by cases h) (Nat.le_of_ble_eq_true rfl) (v := .agg #[.int .i64 0, .int .i64 0]) (by kernel_rfl)) (ResAll.cons (Res1.tmp (t := 5) (v := .int .i64 t9.1) (by kernel_rfl)) ResAll.nil)) (by kernel_rfl) (fun W hI => ⟨_, _, _, rfl, ⟨rfl, rfl, rfl⟩, (hI.less 1 rfl)⟩)
      · replace hc := (not_not_intro (bne_eq_false_iff_eq.1 hc))
        rw [if_neg hc] at h
        have hc13 := hc
        clear hc
        refine WP.skip ?_
        refine QP.next ?_
        refine WP.pick [4, 6] ?_
        refine WP.seqR ?_
        refine WL.tell (op := .load 23 (.tmp 6)) (ty := 23) (d := some 45) (g := none) (by kernel_rfl) (by kernel_rfl) (by kernel_rfl) (Tells.load_box (i := 1) (b := b7) (o := 0) (agg := true) (by rfl) ag23 (by kernel_rfl) (fun h => by cases h) (Nat.le_of_ble_eq_true rfl) (v := .agg #[.int .i64 a1, .int .i64 0]) (by kernel_rfl)) ?_
        refine WL.op (op := .store 23 (.tmp 4) (.tmp 45)) (ty := 0) (d := none) (g := none) (by kernel_rfl) (by kernel_rfl) (by kernel_rfl) (Does.store_box (i := 2) (b := b1) (o := 0) (v := .agg #[.int .i64 a1, .int .i64 0]) (by rfl) sz23 (by kernel_rfl) (by kernel_rfl) (by kernel_rfl) (Free.zero _) (Nat.le_of_ble_eq_true rfl) (cells' := #[.int .i64 a1, .int .i64 0]) (by kernel_rfl)) ?_
        rintro _ _ _ ⟨rfl, rfl, rfl⟩
        refine WL.restQ 2 [4, 5] (L' := [(4, .pointer (some ⟨b1, 0, none⟩)), (5, .int .i64 0)]) (by kernel_rfl) ?_
        refine WP.dropAt 1 ?_
        refine WP.ret ?_
        obtain rfl := Option.some.inj h
        exact QP.returnedM (rs := [.cell 4 23, .tmp 5]) (by kernel_rfl) (ResAll.cons (Res1.box (p := 4) (i := 1) (o := 0) (agg := true) (by rfl) ag23 (by kernel_rfl) (fun h => by cases h) (Nat.le_of_ble_eq_true rfl) (v := .agg #[.int .i64 a1, .int .i64 0]) (by kernel_rfl)) (ResAll.cons (Res1.tmp (t := 5) (v := .int .i64 0) (by kernel_rfl)) ResAll.nil)) (by kernel_rfl) (fun W hI => ⟨_, _, _, rfl, ⟨rfl, rfl, rfl⟩, (hI.less 1 rfl)⟩)
    · replace hc := of_decide_eq_false hc
      rw [if_neg hc] at h
      have hc8 := hc
      clear hc
      refine WP.skip ?_
      refine QP.next ?_
      refine WP.pick [0, 4, 6] ?_
      refine WP.seq ?_
      refine WP.seqR ?_
      refine WL.pure 0 1 [4, 6, 38] (L' := [(4, .pointer (some ⟨b1, 0, none⟩)), (6, .pointer (some ⟨b7, 0, none⟩)), (38, .pointer (some ⟨b0, 0, none⟩))]) (by kernel_rfl) (by decide) ?_
      refine WL.tell (op := .load 23 (.tmp 6)) (ty := 23) (d := some 39) (g := none) (by kernel_rfl) (by kernel_rfl) (by kernel_rfl) (Tells.load_box (i := 0) (b := b7) (o := 0) (agg := true) (by rfl) ag23 (by kernel_rfl) (fun h => by cases h) (Nat.le_of_ble_eq_true rfl) (v := .agg #[.int .i64 a0.f0, .int .i64 (IntKind.i64.wrap (a0.f1 + 1))]) (by kernel_rfl)) ?_
      refine WL.front (i := 2) rfl ?_
      rw [Option.bind_eq_some_iff] at h
      obtain ⟨t14, ht15, h⟩ := h
      refine WL.op (op := .call { callee := (.value (.func 54)), args := #[(.tmp 38), (.tmp 39)], argTypes := #[30, 23] }) (ty := 41) (d := some 40) (g := none) (by kernel_rfl) (by kernel_rfl) (by kernel_rfl) (Does.call (f := 54) (args := [.pointer (some ⟨b0, 0, none⟩), .agg #[.int .i64 a0.f0, .int .i64 (IntKind.i64.wrap (a0.f1 + 1))]]) (by kernel_rfl) (fun W hI => (stamp_Clock_set_calls a0 (⟨a0.f0, IntKind.i64.wrap (a0.f1 + 1)⟩ : T23) b0 t14 ht15 hI))) ?_
      rintro _ _ _ ⟨rfl, rfl, rfl⟩
      refine WL.restQ 3 [4, 6, 7] (L' := [(4, .pointer (some ⟨b1, 0, none⟩)), (6, .pointer (some ⟨b7, 0, none⟩)), (7, .int .i64 t14.1)]) (by kernel_rfl) ?_
      refine WP.seqP [4, 6, 7, 42] (L' := [(4, .pointer (some ⟨b1, 0, none⟩)), (6, .pointer (some ⟨b7, 0, none⟩)), (7, .int .i64 t14.1), (42, .bool (t14.1 != 0))]) (by kernel_rfl) ?_
      refine WP.cond (b := (t14.1 != 0)) (by kernel_rfl) (fun hc => ?_) (fun hc => ?_)
      · replace hc := (bne_iff_ne.1 hc)
        rw [if_pos hc] at h
        have hc18 := hc
        clear hc
        refine WP.seqR ?_
        refine WL.pure 0 2 [4, 43, 44] (L' := [(4, .pointer (some ⟨b1, 0, none⟩)), (43, .agg #[.int .i64 0, .int .i64 0]), (44, .int .i64 t14.1)]) (by kernel_rfl) (by decide) ?_
        refine WL.op (op := .store 23 (.tmp 4) (.tmp 43)) (ty := 0) (d := none) (g := none) (by kernel_rfl) (by kernel_rfl) (by kernel_rfl) (Does.store_box (i := 2) (b := b1) (o := 0) (v := .agg #[.int .i64 0, .int .i64 0]) (by rfl) sz23 (by kernel_rfl) (by kernel_rfl) (by kernel_rfl) (Free.zero _) (Nat.le_of_ble_eq_true rfl) (cells' := #[.int .i64 0, .int .i64 0]) (by kernel_rfl)) ?_
        rintro _ _ _ ⟨rfl, rfl, rfl⟩
        refine WL.restQ 3 [4, 5] (L' := [(4, .pointer (some ⟨b1, 0, none⟩)), (5, .int .i64 t14.1)]) (by kernel_rfl) ?_
        refine WP.dropAt 1 ?_
        refine WP.ret ?_
        refine QP.thenR ?_
        obtain rfl := Option.some.inj h
        exact QP.returnedM (rs := [.cell 4 23, .tmp 5]) (by kernel_rfl) (ResAll.cons (Res1.box (p := 4) (i := 1) (o := 0) (agg := true) (by rfl) ag23 (by kernel_rfl) (fun h => by cases h) (Nat.le_of_ble_eq_true rfl) (v := .agg #[.int .i64 0, .int .i64 0]) (by kernel_rfl)) (ResAll.cons (Res1.tmp (t := 5) (v := .int .i64 t14.1) (by kernel_rfl)) ResAll.nil)) (by kernel_rfl) (fun W hI => ⟨_, _, _, rfl, ⟨rfl, rfl, rfl⟩, (hI.less 1 rfl)⟩)
      · replace hc := (not_not_intro (bne_eq_false_iff_eq.1 hc))
        rw [if_neg hc] at h
        have hc18 := hc
        clear hc
        refine WP.skip ?_
        refine QP.next ?_
        refine WP.pick [4, 6] ?_
        refine WP.seqR ?_
        refine WL.tell (op := .load 23 (.tmp 6)) (ty := 23) (d := some 45) (g := none) (by kernel_rfl) (by kernel_rfl) (by kernel_rfl) (Tells.load_box (i := 1) (b := b7) (o := 0) (agg := true) (by rfl) ag23 (by kernel_rfl) (fun h => by cases h) (Nat.le_of_ble_eq_true rfl) (v := .agg #[.int .i64 a0.f0, .int .i64 (IntKind.i64.wrap (a0.f1 + 1))]) (by kernel_rfl)) ?_
        refine WL.op (op := .store 23 (.tmp 4) (.tmp 45)) (ty := 0) (d := none) (g := none) (by kernel_rfl) (by kernel_rfl) (by kernel_rfl) (Does.store_box (i := 2) (b := b1) (o := 0) (v := .agg #[.int .i64 a0.f0, .int .i64 (IntKind.i64.wrap (a0.f1 + 1))]) (by rfl) sz23 (by kernel_rfl) (by kernel_rfl) (by kernel_rfl) (Free.zero _) (Nat.le_of_ble_eq_true rfl) (cells' := #[.int .i64 a0.f0, .int .i64 (IntKind.i64.wrap (a0.f1 + 1))]) (by kernel_rfl)) ?_
        rintro _ _ _ ⟨rfl, rfl, rfl⟩
        refine WL.restQ 2 [4, 5] (L' := [(4, .pointer (some ⟨b1, 0, none⟩)), (5, .int .i64 0)]) (by kernel_rfl) ?_
        refine WP.dropAt 1 ?_
        refine WP.ret ?_
        obtain rfl := Option.some.inj h
        exact QP.returnedM (rs := [.cell 4 23, .tmp 5]) (by kernel_rfl) (ResAll.cons (Res1.box (p := 4) (i := 1) (o := 0) (agg := true) (by rfl) ag23 (by kernel_rfl) (fun h => by cases h) (Nat.le_of_ble_eq_true rfl) (v := .agg #[.int .i64 a0.f0, .int .i64 (IntKind.i64.wrap (a0.f1 + 1))]) (by kernel_rfl)) (ResAll.cons (Res1.tmp (t := 5) (v := .int .i64 0) (by kernel_rfl)) ResAll.nil)) (by kernel_rfl) (fun W hI => ⟨_, _, _, rfl, ⟨rfl, rfl, rfl⟩, (hI.less 1 rfl)⟩)

/-! ### grapevine/stamp.Less: function 20 -/
def stamp_Less (a0 : T23) (a1 : T23) : Option Bool := (if ¬ a0.f0 = a1.f0 then some (decide (a0.f0 < a1.f0)) else some (decide (a0.f1 < a1.f1)))
set_option maxHeartbeats 4000000 in
theorem stamp_Less_calls {B : World} {G : GMap} {Γ : List Chunk} {W : World} (a0 : T23) (a1 : T23) (r : Bool) (h : stamp_Less a0 a1 = some r) (hI : Inv B G (Γ) W) :
    Calls Try.prog 20 [.agg #[.int .i64 a0.f0, .int .i64 a0.f1], .agg #[.int .i64 a1.f0, .int .i64 a1.f1]].toArray W (Ret B (fun v G' Γ' => v = .bool r ∧ G = G' ∧ Γ = Γ')) := by
  refine calls_WP (Γ := Γ) (G := G) (B := B) Try.func20 rfl (by kernel_rfl) ?_ hI
  clear hI
  unfold stamp_Less at h
  refine WP.seqR ?_
  refine WL.op (op := .box 23 (.tmp 0)) (ty := 0) (d := some 2) (g := none) (by kernel_rfl) (by kernel_rfl) (by kernel_rfl) (Does.new (o := .cells #[.int .i64 a0.f0, .int .i64 a0.f1] 23 (0, 0)) (v := fun r => .pointer (some ⟨r, 0, none⟩)) (fun r => by kernel_rfl)) ?_
  rintro _ _ _ ⟨b1, rfl, rfl, rfl⟩
  refine WL.op (op := .box 23 (.tmp 1)) (ty := 0) (d := some 3) (g := none) (by kernel_rfl) (by kernel_rfl) (by kernel_rfl) (Does.new (o := .cells #[.int .i64 a1.f0, .int .i64 a1.f1] 23 (0, 0)) (v := fun r => .pointer (some ⟨r, 0, none⟩)) (fun r => by kernel_rfl)) ?_
  rintro _ _ _ ⟨b2, rfl, rfl, rfl⟩
  refine WL.restQ 2 [2, 3] (L' := [(2, .pointer (some ⟨b1, 0, none⟩)), (3, .pointer (some ⟨b2, 0, none⟩))]) (by kernel_rfl) ?_
  refine WP.seq ?_
  refine WP.seqR ?_
  refine WL.pure 0 1 [2, 3, 5] (L' := [(2, .pointer (some ⟨b1, 0, none⟩)), (3, .pointer (some ⟨b2, 0, none⟩)), (5, .pointer (some ⟨b1, 0, none⟩))]) (by kernel_rfl) (by decide) ?_
  refine WL.tell (op := .load 3 (.tmp 5)) (ty := 3) (d := some 6) (g := none) (by kernel_rfl) (by kernel_rfl) (by kernel_rfl) (Tells.load_box (i := 1) (b := b1) (o := 0) (agg := false) (by rfl) ag3 (by kernel_rfl) (fun _ => rfl) (Nat.le_of_ble_eq_true rfl) (v := .int .i64 a0.f0) (by kernel_rfl)) ?_
  refine WL.pure 2 3 [2, 3, 6, 7] (L' := [(2, .pointer (some ⟨b1, 0, none⟩)), (3, .pointer (some ⟨b2, 0, none⟩)), (6, .int .i64 a0.f0), (7, .pointer (some ⟨b2, 0, none⟩))]) (by kernel_rfl) (by decide) ?_
  refine WL.tell (op := .load 3 (.tmp 7)) (ty := 3) (d := some 8) (g := none) (by kernel_rfl) (by kernel_rfl) (by kernel_rfl) (Tells.load_box (i := 0) (b := b2) (o := 0) (agg := false) (by rfl) ag3 (by kernel_rfl) (fun _ => rfl) (Nat.le_of_ble_eq_true rfl) (v := .int .i64 a1.f0) (by kernel_rfl)) ?_
  refine WL.restQ 4 [2, 3, 9] (L' := [(2, .pointer (some ⟨b1, 0, none⟩)), (3, .pointer (some ⟨b2, 0, none⟩)), (9, .bool (a0.f0 != a1.f0))]) (by kernel_rfl) ?_
  refine WP.cond (b := (a0.f0 != a1.f0)) (by kernel_rfl) (fun hc => ?_) (fun hc => ?_)
  · replace hc := (bne_iff_ne.1 hc)
    rw [if_pos hc] at h
    have hc3 := hc
    clear hc
    refine WP.seqR ?_
    refine WL.pure 0 1 [3, 10] (L' := [(3, .pointer (some ⟨b2, 0, none⟩)), (10, .pointer (some ⟨b1, 0, none⟩))]) (by kernel_rfl) (by decide) ?_
    refine WL.tell (op := .load 3 (.tmp 10)) (ty := 3) (d := some 11) (g := none) (by kernel_rfl) (by kernel_rfl) (by kernel_rfl) (Tells.load_box (i := 1) (b := b1) (o := 0) (agg := false) (by rfl) ag3 (by kernel_rfl) (fun _ => rfl) (Nat.le_of_ble_eq_true rfl) (v := .int .i64 a0.f0) (by kernel_rfl)) ?_
    refine WL.pure 2 3 [11, 12] (L' := [(11, .int .i64 a0.f0), (12, .pointer (some ⟨b2, 0, none⟩))]) (by kernel_rfl) (by decide) ?_
    refine WL.tell (op := .load 3 (.tmp 12)) (ty := 3) (d := some 13) (g := none) (by kernel_rfl) (by kernel_rfl) (by kernel_rfl) (Tells.load_box (i := 0) (b := b2) (o := 0) (agg := false) (by rfl) ag3 (by kernel_rfl) (fun _ => rfl) (Nat.le_of_ble_eq_true rfl) (v := .int .i64 a1.f0) (by kernel_rfl)) ?_
    refine WL.restQ 4 [4] (L' := [(4, .bool (decide (a0.f0 < a1.f0)))]) (by kernel_rfl) ?_
    refine WP.dropAt 1 ?_
    refine WP.dropAt 0 ?_
    refine WP.ret ?_
    refine QP.thenR ?_
    obtain rfl := Option.some.inj h
    exact QP.returned [4] [.bool (decide (a0.f0 < a1.f0))] _ (by kernel_rfl) (by kernel_rfl) (by kernel_rfl) (fun W hI => ⟨_, _, _, rfl, ⟨rfl, rfl, rfl⟩, hI⟩)
  · replace hc := (not_not_intro (bne_eq_false_iff_eq.1 hc))
    rw [if_neg hc] at h
    have hc3 := hc
    clear hc
    refine WP.skip ?_
    refine QP.next ?_
    refine WP.pick [2, 3] ?_
    refine WP.seqR ?_
    refine WL.pure 0 1 [3, 15] (L' := [(3, .pointer (some ⟨b2, 0, none⟩)), (15, .pointer (some ⟨b1, 1, none⟩))]) (by kernel_rfl) (by decide) ?_
    refine WL.tell (op := .load 3 (.tmp 15)) (ty := 3) (d := some 16) (g := none) (by kernel_rfl) (by kernel_rfl) (by kernel_rfl) (Tells.load_box (i := 1) (b := b1) (o := 1) (agg := false) (by rfl) ag3 (by kernel_rfl) (fun _ => rfl) (Nat.le_of_ble_eq_true rfl) (v := .int .i64 a0.f1) (by kernel_rfl)) ?_
    refine WL.pure 2 3 [16, 17] (L' := [(16, .int .i64 a0.f1), (17, .pointer (some ⟨b2, 1, none⟩))]) (by kernel_rfl) (by decide) ?_
    refine WL.tell (op := .load 3 (.tmp 17)) (ty := 3) (d := some 18) (g := none) (by kernel_rfl) (by kernel_rfl) (by kernel_rfl) (Tells.load_box (i := 0) (b := b2) (o := 1) (agg := false) (by rfl) ag3 (by kernel_rfl) (fun _ => rfl) (Nat.le_of_ble_eq_true rfl) (v := .int .i64 a1.f1) (by kernel_rfl)) ?_
    refine WL.restQ 4 [4] (L' := [(4, .bool (decide (a0.f1 < a1.f1)))]) (by kernel_rfl) ?_
    refine WP.dropAt 1 ?_
    refine WP.dropAt 0 ?_
    refine WP.ret ?_
    obtain rfl := Option.some.inj h
    exact QP.returned [4] [.bool (decide (a0.f1 < a1.f1))] _ (by kernel_rfl) (by kernel_rfl) (by kernel_rfl) (fun W hI => ⟨_, _, _, rfl, ⟨rfl, rfl, rfl⟩, hI⟩)

/-! ### grapevine/stamp.Max: function 22 -/
def stamp_Max_l0 (l0 : List T23) : Nat → Int → T23 → Option T23
  | 0, _, _ => none
  | k + 1, y5, y6 => (if y5 < (l0.length : Int) then (if 0 ≤ y5 ∧ y5 < (l0.length : Int) then ((if y5 = 0 then some true else ((stamp_Less y6 (⟨(l0.getD y5.toNat z23).f0, (l0.getD y5.toNat z23).f1⟩ : T23)).bind fun t15 => some t15)).bind fun s12 => (if s12 = true then stamp_Max_l0 l0 k (IntKind.i64.wrap (y5 + 1)) (⟨(l0.getD y5.toNat z23).f0, (l0.getD y5.toNat z23).f1⟩ : T23) else stamp_Max_l0 l0 k (IntKind.i64.wrap (y5 + 1)) y6)) else none) else some y6)
def stamp_Max (k : Nat) (l0 : List T23) : Option T23 := ((stamp_Max_l0 l0 k 0 (⟨0, 0⟩ : T23)).bind fun s3 => some s3)
set_option maxHeartbeats 4000000 in
theorem stamp_Max_calls {B : World} {G : GMap} {Γ : List Chunk} {W : World} (k : Nat) (l0 : List T23) (Al0 : Option Addr) (cl0 : Nat) (Hl0 : Rd k23 G Al0 cl0 l0) (r : T23) (h : stamp_Max k l0 = some r) (hI : Inv B G (Γ) W) :
    Calls Try.prog 22 [.slice Al0 l0.length cl0].toArray W (Ret B (fun v G' Γ' => v = .agg #[.int .i64 r.f0, .int .i64 r.f1] ∧ G = G' ∧ Γ = Γ')) := by
  refine calls_WP (Γ := Γ) (G := G) (B := B) Try.func22 rfl (by kernel_rfl) ?_ hI
  clear hI
  unfold stamp_Max at h
  refine WP.seqR ?_
  refine WL.op (op := .alloc 23) (ty := 0) (d := some 2) (g := none) (by kernel_rfl) (by kernel_rfl) (by kernel_rfl) (Does.new (o := .cells #[.int .i64 0, .int .i64 0] 23 (0, 0)) (v := fun r => .pointer (some ⟨r, 0, none⟩)) (fun r => by kernel_rfl)) ?_
  rintro _ _ _ ⟨b1, rfl, rfl, rfl⟩
  refine WL.restQ 1 [0, 2] (L' := [(0, .slice Al0 l0.length cl0), (2, .pointer (some ⟨b1, 0, none⟩))]) (by kernel_rfl) ?_
  refine WP.seqR ?_
  refine WL.op (op := .alloc 23) (ty := 0) (d := some 3) (g := none) (by kernel_rfl) (by kernel_rfl) (by kernel_rfl) (Does.new (o := .cells #[.int .i64 0, .int .i64 0] 23 (0, 0)) (v := fun r => .pointer (some ⟨r, 0, none⟩)) (fun r => by kernel_rfl)) ?_
  rintro _ _ _ ⟨b2, rfl, rfl, rfl⟩
  refine WL.restQ 1 [0, 2, 3] (L' := [(0, .slice Al0 l0.length cl0), (2, .pointer (some ⟨b1, 0, none⟩)), (3, .pointer (some ⟨b2, 0, none⟩))]) (by kernel_rfl) ?_
  refine WP.seq ?_
  refine WP.seqP [2, 3, 6, 7, 8] (L' := [(2, .pointer (some ⟨b1, 0, none⟩)), (3, .pointer (some ⟨b2, 0, none⟩)), (6, .slice Al0 l0.length cl0), (7, .int .i64 (l0.length : Int)), (8, .int .i64 0)]) (by kernel_rfl) ?_
  rw [Option.bind_eq_some_iff] at h
  obtain ⟨os3, h, hk4⟩ := h
  refine WP.cutQ (fun L' G' Γ' => ∃ s3 : T23, s3 = os3 ∧ L' = [(2, .pointer (some ⟨b1, 0, none⟩)), (3, .pointer (some ⟨b2, 0, none⟩))] ∧ G = G' ∧ [(b2, .cells #[.int .i64 s3.f0, .int .i64 s3.f1] 23 (0, 0))] :: [(b1, .cells #[.int .i64 0, .int .i64 0] 23 (0, 0))] :: Γ = Γ') ?_ ?_
  · clear hk4
    refine WP.block ?_
    refine WP.pick [2, 3, 6, 7, 8] ?_
    refine WP.loopF (fun k7 L' G' Γ' => ∃ (y5 : Int), ∃ (y6 : T23), stamp_Max_l0 l0 k7 y5 y6 = some os3 ∧ L' = [(2, .pointer (some ⟨b1, 0, none⟩)), (3, .pointer (some ⟨b2, 0, none⟩)), (6, .slice Al0 l0.length cl0), (7, .int .i64 (l0.length : Int)), (8, .int .i64 y5)] ∧ G = G' ∧ [(b2, .cells #[.int .i64 y6.f0, .int .i64 y6.f1] 23 (0, 0))] :: [(b1, .cells #[.int .i64 0, .int .i64 0] 23 (0, 0))] :: Γ = Γ') ?_ k ⟨0, (⟨0, 0⟩ : T23), h, rfl, rfl, rfl⟩
    clear h
    rintro k8 _ _ _ ⟨y5, y6, h, rfl, rfl, rfl⟩
    cases k8 with
    | zero => exact absurd h (by simp [stamp_Max_l0])
    | succ k8 =>
      simp only [stamp_Max_l0] at h
      refine WP.seqP [2, 3, 6, 7, 8, 9] (L' := [(2, .pointer (some ⟨b1, 0, none⟩)), (3, .pointer (some ⟨b2, 0, none⟩)), (6, .slice Al0 l0.length cl0), (7, .int .i64 (l0.length : Int)), (8, .int .i64 y5), (9, .bool (decide (y5 < (l0.length : Int))))]) (by kernel_rfl) ?_
      refine WP.seq ?_
      refine WP.cond (b := decide (y5 < (l0.length : Int))) (by kernel_rfl) (fun hc => ?_) (fun hc => ?_)
      · replace hc := of_decide_eq_true hc
        rw [if_pos hc] at h
        have hc9 := hc
        clear hc
        refine WP.skip ?_
        refine QP.next ?_
        refine WP.pick [2, 3, 6, 7, 8] ?_
        refine WP.seq ?_
        refine WP.block ?_
        refine WP.seqR ?_
        refine WL.pure 0 1 [2, 3, 6, 7, 8, 10] (L' := [(2, .pointer (some ⟨b1, 0, none⟩)), (3, .pointer (some ⟨b2, 0, none⟩)), (6, .slice Al0 l0.length cl0), (7, .int .i64 (l0.length : Int)), (8, .int .i64 y5), (10, .int .i64 y5)]) (by kernel_rfl) (by decide) ?_
        by_cases hb10 : 0 ≤ y5 ∧ y5 < (l0.length : Int)
        case neg => rw [if_neg hb10] at h; cases h
        rw [if_pos hb10] at h
        refine WL.tell (op := .indexAddr 24 (.tmp 6) (.tmp 8)) (ty := 0) (d := some 11) (g := none) (by kernel_rfl) (by kernel_rfl) (by kernel_rfl) (Tells.indexAddr (A := Al0) (n := l0.length) (c := cl0) (k := .i64) (j := y5) (by kernel_rfl) (by kernel_rfl) (Hl0.isSome hb10.1 hb10.2) hb10.1 hb10.2 sl24) ?_
        refine WL.tellE (op := .load 23 (.tmp 11)) (ty := 23) (d := some 12) (g := none) (by kernel_rfl) (by kernel_rfl) (by kernel_rfl) (Hl0.load (agg := true) hb10.1 hb10.2 z23 ag23 (fun h => by cases h) (by kernel_rfl)) ?_
        rintro _ rfl
        refine WL.op (op := .alloc 23) (ty := 0) (d := some 5) (g := none) (by kernel_rfl) (by kernel_rfl) (by kernel_rfl) (Does.new (o := .cells #[.int .i64 0, .int .i64 0] 23 (0, 0)) (v := fun r => .pointer (some ⟨r, 0, none⟩)) (fun r => by kernel_rfl)) ?_
        rintro _ _ _ ⟨b11, rfl, rfl, rfl⟩
        refine WL.pure 4 5 [2, 3, 4, 5, 6, 7, 8, 12] (L' := [(2, .pointer (some ⟨b1, 0, none⟩)), (3, .pointer (some ⟨b2, 0, none⟩)), (4, .int .i64 y5), (5, .pointer (some ⟨b11, 0, none⟩)), (6, .slice Al0 l0.length cl0), (7, .int .i64 (l0.length : Int)), (8, .int .i64 y5), (12, .agg #[.int .i64 ((l0.getD y5.toNat z23).f0), .int .i64 ((l0.getD y5.toNat z23).f1)])]) (by kernel_rfl) (by decide) ?_
        refine WL.op (op := .store 23 (.tmp 5) (.tmp 12)) (ty := 0) (d := none) (g := none) (by kernel_rfl) (by kernel_rfl) (by kernel_rfl) (Does.store_box (i := 0) (b := b11) (o := 0) (v := .agg #[.int .i64 ((l0.getD y5.toNat z23).f0), .int .i64 ((l0.getD y5.toNat z23).f1)]) (by rfl) sz23 (by kernel_rfl) (by kernel_rfl) (by kernel_rfl) (Free.zero _) (Nat.le_of_ble_eq_true rfl) (cells' := #[.int .i64 ((l0.getD y5.toNat z23).f0), .int .i64 ((l0.getD y5.toNat z23).f1)]) (by kernel_rfl)) ?_
        rintro _ _ _ ⟨rfl, rfl, rfl⟩
        refine WL.restQ 6 [2, 3, 4, 5, 6, 7, 8] (L' := [(2, .pointer (some ⟨b1, 0, none⟩)), (3, .pointer (some ⟨b2, 0, none⟩)), (4, .int .i64 y5), (5, .pointer (some ⟨b11, 0, none⟩)), (6, .slice Al0 l0.length cl0), (7, .int .i64 (l0.length : Int)), (8, .int .i64 y5)]) (by kernel_rfl) ?_
        rw [Option.bind_eq_some_iff] at h
        obtain ⟨os12, h, hk13⟩ := h
        refine WP.cut (fun L' G' Γ' => ∃ s12 : Bool, s12 = os12 ∧ L' = [(2, .pointer (some ⟨b1, 0, none⟩)), (3, .pointer (some ⟨b2, 0, none⟩)), (5, .pointer (some ⟨b11, 0, none⟩)), (6, .slice Al0 l0.length cl0), (7, .int .i64 (l0.length : Int)), (8, .int .i64 y5), (19, .bool s12)] ∧ G = G' ∧ [(b11, .cells #[.int .i64 ((l0.getD y5.toNat z23).f0), .int .i64 ((l0.getD y5.toNat z23).f1)] 23 (0, 0))] :: [(b2, .cells #[.int .i64 y6.f0, .int .i64 y6.f1] 23 (0, 0))] :: [(b1, .cells #[.int .i64 0, .int .i64 0] 23 (0, 0))] :: Γ = Γ') ?_ ?_
        · clear hk13
          refine WP.region ?_
          refine WL.pure 0 3 [2, 3, 5, 6, 7, 8, 15] (L' := [(2, .pointer (some ⟨b1, 0, none⟩)), (3, .pointer (some ⟨b2, 0, none⟩)), (5, .pointer (some ⟨b11, 0, none⟩)), (6, .slice Al0 l0.length cl0), (7, .int .i64 (l0.length : Int)), (8, .int .i64 y5), (15, .bool (y5 == 0))]) (by kernel_rfl) (by decide) ?_
          refine WL.split 15 (b := (y5 == 0)) (by kernel_rfl) (fun hc => ?_) (fun hc => ?_)
          · replace hc := eq_of_beq hc
            rw [if_pos hc] at h
            have hc14 := hc
            clear hc
            refine WL.rest 3 [2, 3, 5, 6, 7, 8, 19] (L' := [(2, .pointer (some ⟨b1, 0, none⟩)), (3, .pointer (some ⟨b2, 0, none⟩)), (5, .pointer (some ⟨b11, 0, none⟩)), (6, .slice Al0 l0.length cl0), (7, .int .i64 (l0.length : Int)), (8, .int .i64 y5), (19, .bool true)]) (by kernel_rfl) ?_
            refine QP.pick [2, 3, 5, 6, 7, 8, 19] ?_
            exact QP.meet ⟨_, Option.some.inj h, rfl, rfl, rfl⟩
          · replace hc := ne_of_beq_false hc
            rw [if_neg hc] at h
            have hc14 := hc
            clear hc
            refine WL.tell (op := .load 23 (.tmp 3)) (ty := 23) (d := some 16) (g := some (2, false)) (by kernel_rfl) (by kernel_rfl) (by kernel_rfl) (Tells.load_box (i := 1) (b := b2) (o := 0) (agg := true) (by rfl) ag23 (by kernel_rfl) (fun h => by cases h) (Nat.le_of_ble_eq_true rfl) (v := .agg #[.int .i64 y6.f0, .int .i64 y6.f1]) (by kernel_rfl)) ?_
            refine WL.tell (op := .load 23 (.tmp 5)) (ty := 23) (d := some 17) (g := some (2, false)) (by kernel_rfl) (by kernel_rfl) (by kernel_rfl) (Tells.load_box (i := 0) (b := b11) (o := 0) (agg := true) (by rfl) ag23 (by kernel_rfl) (fun h => by cases h) (Nat.le_of_ble_eq_true rfl) (v := .agg #[.int .i64 ((l0.getD y5.toNat z23).f0), .int .i64 ((l0.getD y5.toNat z23).f1)]) (by kernel_rfl)) ?_
            rw [Option.bind_eq_some_iff] at h
            obtain ⟨t15, ht16, h⟩ := h
            refine WL.op (op := .call { callee := (.value (.func 20)), args := #[(.tmp 16), (.tmp 17)], argTypes := #[23, 23] }) (ty := 4) (d := some 18) (g := some (2, false)) (by kernel_rfl) (by kernel_rfl) (by kernel_rfl) (Does.call (f := 20) (args := [.agg #[.int .i64 y6.f0, .int .i64 y6.f1], .agg #[.int .i64 ((l0.getD y5.toNat z23).f0), .int .i64 ((l0.getD y5.toNat z23).f1)]]) (by kernel_rfl) (fun W hI => (stamp_Less_calls y6 (⟨(l0.getD y5.toNat z23).f0, (l0.getD y5.toNat z23).f1⟩ : T23)  t15 ht16 hI))) ?_
            rintro _ _ _ ⟨rfl, rfl, rfl⟩
            refine WL.rest 6 [2, 3, 5, 6, 7, 8, 19] (L' := [(2, .pointer (some ⟨b1, 0, none⟩)), (3, .pointer (some ⟨b2, 0, none⟩)), (5, .pointer (some ⟨b11, 0, none⟩)), (6, .slice Al0 l0.length cl0), (7, .int .i64 (l0.length : Int)), (8, .int .i64 y5), (19, .bool t15)]) (by kernel_rfl) ?_
            refine QP.pick [2, 3, 5, 6, 7, 8, 19] ?_
            exact QP.meet ⟨_, Option.some.inj h, rfl, rfl, rfl⟩
        · rintro _ _ _ ⟨s12, rfl, rfl, rfl, rfl⟩
          clear h
          replace h := hk13
          refine WP.cond (b := s12) (by kernel_rfl) (fun hc => ?_) (fun hc => ?_)
          · replace hc := hc
            rw [if_pos hc] at h
            have hc19 := hc
            clear hc
            refine WP.region ?_
            refine WL.tell (op := .load 23 (.tmp 5)) (ty := 23) (d := some 20) (g := none) (by kernel_rfl) (by kernel_rfl) (by kernel_rfl) (Tells.load_box (i := 0) (b := b11) (o := 0) (agg := true) (by rfl) ag23 (by kernel_rfl) (fun h => by cases h) (Nat.le_of_ble_eq_true rfl) (v := .agg #[.int .i64 ((l0.getD y5.toNat z23).f0), .int .i64 ((l0.getD y5.toNat z23).f1)]) (by kernel_rfl)) ?_
            refine WL.op (op := .store 23 (.tmp 3) (.tmp 20)) (ty := 0) (d := none) (g := none) (by kernel_rfl) (by kernel_rfl) (by kernel_rfl) (Does.store_box (i := 1) (b := b2) (o := 0) (v := .agg #[.int .i64 ((l0.getD y5.toNat z23).f0), .int .i64 ((l0.getD y5.toNat z23).f1)]) (by rfl) sz23 (by kernel_rfl) (by kernel_rfl) (by kernel_rfl) (Free.zero _) (Nat.le_of_ble_eq_true rfl) (cells' := #[.int .i64 ((l0.getD y5.toNat z23).f0), .int .i64 ((l0.getD y5.toNat z23).f1)]) (by kernel_rfl)) ?_
            rintro _ _ _ ⟨rfl, rfl, rfl⟩
            refine WL.rest 2 [2, 3, 6, 7, 8] (L' := [(2, .pointer (some ⟨b1, 0, none⟩)), (3, .pointer (some ⟨b2, 0, none⟩)), (6, .slice Al0 l0.length cl0), (7, .int .i64 (l0.length : Int)), (8, .int .i64 y5)]) (by kernel_rfl) ?_
            refine QP.blockN ?_
            refine QP.next ?_
            refine WP.pick [2, 3, 6, 7, 8] ?_
            refine WP.regionP [2, 3, 6, 7, 8] (L' := [(2, .pointer (some ⟨b1, 0, none⟩)), (3, .pointer (some ⟨b2, 0, none⟩)), (6, .slice Al0 l0.length cl0), (7, .int .i64 (l0.length : Int)), (8, .int .i64 (IntKind.i64.wrap (y5 + 1)))]) (by kernel_rfl) ?_
            refine QP.dropAt 0 ?_
            refine QP.front (i := 1) rfl ?_
            refine QP.front (i := 1) rfl ?_
            refine QP.pick [2, 3, 6, 7, 8] ?_
            exact QP.meet ⟨k8, Nat.lt_succ_self _, (IntKind.i64.wrap (y5 + 1)), (⟨(l0.getD y5.toNat z23).f0, (l0.getD y5.toNat z23).f1⟩ : T23), h, rfl, rfl, rfl⟩
          · replace hc := (Bool.eq_false_iff.1 hc)
            rw [if_neg hc] at h
            have hc19 := hc
            clear hc
            refine WP.skip ?_
            refine QP.blockN ?_
            refine QP.next ?_
            refine WP.pick [2, 3, 6, 7, 8] ?_
            refine WP.regionP [2, 3, 6, 7, 8] (L' := [(2, .pointer (some ⟨b1, 0, none⟩)), (3, .pointer (some ⟨b2, 0, none⟩)), (6, .slice Al0 l0.length cl0), (7, .int .i64 (l0.length : Int)), (8, .int .i64 (IntKind.i64.wrap (y5 + 1)))]) (by kernel_rfl) ?_
            refine QP.dropAt 0 ?_
            refine QP.front (i := 1) rfl ?_
            refine QP.front (i := 1) rfl ?_
            refine QP.pick [2, 3, 6, 7, 8] ?_
            exact QP.meet ⟨k8, Nat.lt_succ_self _, (IntKind.i64.wrap (y5 + 1)), y6, h, rfl, rfl, rfl⟩
      · replace hc := of_decide_eq_false hc
        rw [if_neg hc] at h
        have hc9 := hc
        clear hc
        refine WP.exit ?_
        refine QP.thenE ?_
        refine QP.thenE ?_
        refine QP.blockE ?_
        refine QP.pick [2, 3] ?_
        exact QP.meet ⟨_, Option.some.inj h, rfl, rfl, rfl⟩
  · rintro _ _ _ ⟨s3, rfl, rfl, rfl, rfl⟩
    clear h
    replace h := hk4
    refine QP.next ?_
    refine WP.pick [2, 3] ?_
    refine WP.seqR ?_
    refine WL.tell (op := .load 23 (.tmp 3)) (ty := 23) (d := some 22) (g := none) (by kernel_rfl) (by kernel_rfl) (by kernel_rfl) (Tells.load_box (i := 0) (b := b2) (o := 0) (agg := true) (by rfl) ag23 (by kernel_rfl) (fun h => by cases h) (Nat.le_of_ble_eq_true rfl) (v := .agg #[.int .i64 s3.f0, .int .i64 s3.f1]) (by kernel_rfl)) ?_
    refine WL.op (op := .store 23 (.tmp 2) (.tmp 22)) (ty := 0) (d := none) (g := none) (by kernel_rfl) (by kernel_rfl) (by kernel_rfl) (Does.store_box (i := 1) (b := b1) (o := 0) (v := .agg #[.int .i64 s3.f0, .int .i64 s3.f1]) (by rfl) sz23 (by kernel_rfl) (by kernel_rfl) (by kernel_rfl) (Free.zero _) (Nat.le_of_ble_eq_true rfl) (cells' := #[.int .i64 s3.f0, .int .i64 s3.f1]) (by kernel_rfl)) ?_
    rintro _ _ _ ⟨rfl, rfl, rfl⟩
    refine WL.restQ 2 [2] (L' := [(2, .pointer (some ⟨b1, 0, none⟩))]) (by kernel_rfl) ?_
    refine WP.dropAt 0 ?_
    refine WP.ret ?_
    obtain rfl := Option.some.inj h
    exact QP.returnedM (rs := [.cell 2 23]) (by kernel_rfl) (ResAll.cons (Res1.box (p := 2) (i := 0) (o := 0) (agg := true) (by rfl) ag23 (by kernel_rfl) (fun h => by cases h) (Nat.le_of_ble_eq_true rfl) (v := .agg #[.int .i64 s3.f0, .int .i64 s3.f1]) (by kernel_rfl)) ResAll.nil) (by kernel_rfl) (fun W hI => ⟨_, _, _, rfl, ⟨rfl, rfl, rfl⟩, (hI.less 0 rfl)⟩)

/-! ### (*grapevine/stamp.Clock).See: function 27 -/
def stamp_Clock_See (k : Nat) (a0 : T81) (a1 : T23) (a2 : Int) : Option (Int × T81) := (((stamp_May a1).bind fun t4 => (if (!t4) = true then some true else ((stamp_wall a2).bind fun t9 => some (!t9)))).bind fun s2 => (if s2 = true then some (2, a0) else (if (IntKind.i64.wrap (a1.f0 - a2)) > 1000 then some (5, a0) else (if a2 > (if a0.f0 > a1.f0 then a0.f0 else a1.f0) then ((stamp_Clock_set a0 (⟨a2, 0⟩ : T23)).bind fun t16 => some (t16.1, t16.2)) else (((stamp_Max k ([a1, (⟨a0.f0, a0.f1⟩ : T23)] : List T23)).bind fun t26 => some t26).bind fun s20 => ((stamp_Clock_set a0 (⟨s20.f0, IntKind.i64.wrap (s20.f1 + 1)⟩ : T23)).bind fun t32 => some (t32.1, t32.2)))))))
set_option maxHeartbeats 4000000 in
theorem stamp_Clock_See_calls {B : World} {G : GMap} {Γ : List Chunk} {W : World} (k : Nat) (a0 : T81) (a1 : T23) (a2 : Int) (b0 : Nat) (r : Int × T81) (h : stamp_Clock_See k a0 a1 a2 = some r) (hI : Inv B G ([(b0, .cells #[.int .i64 a0.f0, .int .i64 a0.f1] 81 (0, 0))] :: Γ) W) :
    Calls Try.prog 27 [.pointer (some ⟨b0, 0, none⟩), .agg #[.int .i64 a1.f0, .int .i64 a1.f1], .int .i64 a2].toArray W (Ret B (fun v G' Γ' => v = .int .i64 r.1 ∧ G = G' ∧ [(b0, .cells #[.int .i64 r.2.f0, .int .i64 r.2.f1] 81 (0, 0))] :: Γ = Γ')) := by
  refine calls_WP (Γ := [(b0, .cells #[.int .i64 a0.f0, .int .i64 a0.f1] 81 (0, 0))] :: Γ) (G := G) (B := B) Try.func27 rfl (by kernel_rfl) ?_ hI
  clear hI
  unfold stamp_Clock_See at h
  refine WP.seqR ?_
  refine WL.op (op := .box 23 (.tmp 1)) (ty := 0) (d := some 4) (g := none) (by kernel_rfl) (by kernel_rfl) (by kernel_rfl) (Does.new (o := .cells #[.int .i64 a1.f0, .int .i64 a1.f1] 23 (0, 0)) (v := fun r => .pointer (some ⟨r, 0, none⟩)) (fun r => by kernel_rfl)) ?_
  rintro _ _ _ ⟨b1, rfl, rfl, rfl⟩
  refine WL.restQ 1 [0, 2, 4] (L' := [(0, .pointer (some ⟨b0, 0, none⟩)), (2, .int .i64 a2), (4, .pointer (some ⟨b1, 0, none⟩))]) (by kernel_rfl) ?_
  refine WP.seq ?_
  refine WP.block ?_
  refine WP.seqP [0, 2, 4, 8] (L' := [(0, .pointer (some ⟨b0, 0, none⟩)), (2, .int .i64 a2), (4, .pointer (some ⟨b1, 0, none⟩)), (8, .bool false)]) (by kernel_rfl) ?_
  refine WP.no (by kernel_rfl) ?_
  rw [Option.bind_eq_some_iff] at h
  obtain ⟨os2, h, hk3⟩ := h
  refine WP.cut (fun L' G' Γ' => ∃ s2 : Bool, s2 = os2 ∧ L' = [(0, .pointer (some ⟨b0, 0, none⟩)), (2, .int .i64 a2), (4, .pointer (some ⟨b1, 0, none⟩)), (11, .bool s2)] ∧ G = G' ∧ [(b1, .cells #[.int .i64 a1.f0, .int .i64 a1.f1] 23 (0, 0))] :: [(b0, .cells #[.int .i64 a0.f0, .int .i64 a0.f1] 81 (0, 0))] :: Γ = Γ') ?_ ?_
  · clear hk3
    refine WP.region ?_
    refine WL.tell (op := .load 23 (.tmp 4)) (ty := 23) (d := some 12) (g := none) (by kernel_rfl) (by kernel_rfl) (by kernel_rfl) (Tells.load_box (i := 0) (b := b1) (o := 0) (agg := true) (by rfl) ag23 (by kernel_rfl) (fun h => by cases h) (Nat.le_of_ble_eq_true rfl) (v := .agg #[.int .i64 a1.f0, .int .i64 a1.f1]) (by kernel_rfl)) ?_
    rw [Option.bind_eq_some_iff] at h
    obtain ⟨t4, ht5, h⟩ := h
    refine WL.op (op := .call { callee := (.value (.func 18)), args := #[(.tmp 12)], argTypes := #[23] }) (ty := 4) (d := some 13) (g := none) (by kernel_rfl) (by kernel_rfl) (by kernel_rfl) (Does.call (f := 18) (args := [.agg #[.int .i64 a1.f0, .int .i64 a1.f1]]) (by kernel_rfl) (fun W hI => (stamp_May_calls a1  t4 ht5 hI))) ?_
    rintro _ _ _ ⟨rfl, rfl, rfl⟩
    refine WL.pure 2 4 [0, 2, 4, 15] (L' := [(0, .pointer (some ⟨b0, 0, none⟩)), (2, .int .i64 a2), (4, .pointer (some ⟨b1, 0, none⟩)), (15, .bool (!t4))]) (by kernel_rfl) (by decide) ?_
    refine WL.split 15 (b := (!t4)) (by kernel_rfl) (fun hc => ?_) (fun hc => ?_)
    · replace hc := hc
      rw [if_pos hc] at h
      have hc8 := hc
      clear hc
      refine WL.rest 4 [0, 2, 4, 11] (L' := [(0, .pointer (some ⟨b0, 0, none⟩)), (2, .int .i64 a2), (4, .pointer (some ⟨b1, 0, none⟩)), (11, .bool true)]) (by kernel_rfl) ?_
      refine QP.pick [0, 2, 4, 11] ?_
      exact QP.meet ⟨_, Option.some.inj h, rfl, rfl, rfl⟩
    · replace hc := (Bool.eq_false_iff.1 hc)
      rw [if_neg hc] at h
      have hc8 := hc
      clear hc
      refine WL.pure 4 5 [0, 2, 4, 15, 16] (L' := [(0, .pointer (some ⟨b0, 0, none⟩)), (2, .int .i64 a2), (4, .pointer (some ⟨b1, 0, none⟩)), (15, .bool false), (16, .int .i64 a2)]) (by kernel_rfl) (by decide) ?_
      rw [Option.bind_eq_some_iff] at h
      obtain ⟨t9, ht10, h⟩ := h
      refine WL.op (op := .call { callee := (.value (.func 52)), args := #[(.tmp 16)], argTypes := #[3] }) (ty := 4) (d := some 17) (g := some (3, false)) (by kernel_rfl) (by kernel_rfl) (by kernel_rfl) (Does.call (f := 52) (args := [.int .i64 a2]) (by kernel_rfl) (fun W hI => (stamp_wall_calls a2  t9 ht10 hI))) ?_
      rintro _ _ _ ⟨rfl, rfl, rfl⟩
      refine WL.rest 6 [0, 2, 4, 11] (L' := [(0, .pointer (some ⟨b0, 0, none⟩)), (2, .int .i64 a2), (4, .pointer (some ⟨b1, 0, none⟩)), (11, .bool (!t9))]) (by kernel_rfl) ?_
      refine QP.pick [0, 2, 4, 11] ?_
      exact QP.meet ⟨_, Option.some.inj h, rfl, rfl, rfl⟩
  · rintro _ _ _ ⟨s2, rfl, rfl, rfl, rfl⟩
    clear h
    replace h := hk3
    refine WP.cond (b := s2) (by kernel_rfl) (fun hc => ?_) (fun hc => ?_)
    · replace hc := hc
      rw [if_pos hc] at h
      have hc13 := hc
      clear hc
      refine WP.seqP [6] (L' := [(6, .int .i64 2)]) (by kernel_rfl) ?_
      refine WP.dropAt 0 ?_
      refine WP.ret ?_
      refine QP.blockR ?_
      refine QP.thenR ?_
      obtain rfl := Option.some.inj h
      exact QP.returned [6] [.int .i64 2] _ (by kernel_rfl) (by kernel_rfl) (by kernel_rfl) (fun W hI => ⟨_, _, _, rfl, ⟨rfl, rfl, rfl⟩, hI⟩)
    · replace hc := (Bool.eq_false_iff.1 hc)
      rw [if_neg hc] at h
      have hc13 := hc
      clear hc
      refine WP.seqR ?_
      refine WL.pure 0 1 [0, 2, 4, 21] (L' := [(0, .pointer (some ⟨b0, 0, none⟩)), (2, .int .i64 a2), (4, .pointer (some ⟨b1, 0, none⟩)), (21, .pointer (some ⟨b1, 0, none⟩))]) (by kernel_rfl) (by decide) ?_
      refine WL.tell (op := .load 3 (.tmp 21)) (ty := 3) (d := some 22) (g := none) (by kernel_rfl) (by kernel_rfl) (by kernel_rfl) (Tells.load_box (i := 0) (b := b1) (o := 0) (agg := false) (by rfl) ag3 (by kernel_rfl) (fun _ => rfl) (Nat.le_of_ble_eq_true rfl) (v := .int .i64 a1.f0) (by kernel_rfl)) ?_
      refine WL.restQ 2 [0, 2, 4, 20] (L' := [(0, .pointer (some ⟨b0, 0, none⟩)), (2, .int .i64 a2), (4, .pointer (some ⟨b1, 0, none⟩)), (20, .bool (decide ((IntKind.i64.wrap (a1.f0 - a2)) > 1000)))]) (by kernel_rfl) ?_
      refine WP.cond (b := decide ((IntKind.i64.wrap (a1.f0 - a2)) > 1000)) (by kernel_rfl) (fun hc => ?_) (fun hc => ?_)
      · replace hc := of_decide_eq_true hc
        rw [if_pos hc] at h
        have hc14 := hc
        clear hc
        refine WP.seqP [6] (L' := [(6, .int .i64 5)]) (by kernel_rfl) ?_
        refine WP.dropAt 0 ?_
        refine WP.ret ?_
        refine QP.blockR ?_
        refine QP.thenR ?_
        obtain rfl := Option.some.inj h
        exact QP.returned [6] [.int .i64 5] _ (by kernel_rfl) (by kernel_rfl) (by kernel_rfl) (fun W hI => ⟨_, _, _, rfl, ⟨rfl, rfl, rfl⟩, hI⟩)
      · replace hc := of_decide_eq_false hc
        rw [if_neg hc] at h
        have hc14 := hc
        clear hc
        refine WP.seq ?_
        refine WP.any (N := 11) (S := [⟨some 27, [2], []⟩, ⟨some 28, [4], []⟩, ⟨some 29, [28], [1]⟩, ⟨some 30, [0], []⟩, ⟨some 31, [30], [3]⟩, ⟨some 32, [31], [4]⟩, ⟨some 33, [32], [5]⟩, ⟨some 34, [33], [6]⟩, ⟨some 35, [29, 34], [2, 7]⟩, ⟨some 36, [27, 35], [0, 8]⟩, ⟨some 26, [36], [9]⟩]) (kw := 11) (G0 := G) (Γ0 := [(b1, .cells #[.int .i64 a1.f0, .int .i64 a1.f1] 23 (0, 0))] :: [(b0, .cells #[.int .i64 a0.f0, .int .i64 a0.f1] 81 (0, 0))] :: Γ) mo (by kernel_rfl) (fun hS => ?_)
        refine WA.pure [0, 1, 3, 4, 5, 6] [0, 2, 4, 27, 28, 33] (m := 5) (b' := 123) (L' := [(0, .pointer (some ⟨b0, 0, none⟩)), (2, .int .i64 a2), (4, .pointer (some ⟨b1, 0, none⟩)), (27, .int .i64 a2), (28, .pointer (some ⟨b1, 0, none⟩)), (33, .pointer (some ⟨b0, 0, none⟩))]) (by kernel_rfl) (NoPanic.then (NoPanic.block (NoPanic.then (NoPanic.body)))) Under.refl hS (by kernel_rfl) ?_
        refine WA.tellD [] (i := 2) (m := 4) (b' := 127) (by kernel_rfl) (NoPanic.then (NoPanic.block (NoPanic.then (NoPanic.body)))) Under.refl hS (by kernel_rfl) (op := .load 3 (.tmp 28)) (ty := 3) (d := some 29) (g := none) (by kernel_rfl) (by kernel_rfl) (by kernel_rfl) (Tells.load_box (i := 0) (b := b1) (o := 0) (agg := false) (by rfl) ag3 (by kernel_rfl) (fun _ => rfl) (Nat.le_of_ble_eq_true rfl) (v := .int .i64 a1.f0) (by kernel_rfl)) ?_
        refine WA.tellD [] (i := 7) (m := 3) (b' := 255) (by kernel_rfl) (NoPanic.then (NoPanic.block (NoPanic.then (NoPanic.body)))) Under.refl hS (by kernel_rfl) (op := .load 3 (.tmp 33)) (ty := 3) (d := some 34) (g := none) (by kernel_rfl) (by kernel_rfl) (by kernel_rfl) (Tells.load_box (i := 1) (b := b0) (o := 0) (agg := false) (by rfl) ag3 (by kernel_rfl) (fun _ => rfl) (Nat.le_of_ble_eq_true rfl) (v := .int .i64 a0.f0) (by kernel_rfl)) ?_
        refine WA.pure [8, 9, 10] [0, 2, 4, 26] (m := 0) (b' := 2047) (L' := [(0, .pointer (some ⟨b0, 0, none⟩)), (2, .int .i64 a2), (4, .pointer (some ⟨b1, 0, none⟩)), (26, .bool (decide (a2 > (if a0.f0 > a1.f0 then a0.f0 else a1.f0))))]) (by kernel_rfl) (NoPanic.then (NoPanic.block (NoPanic.then (NoPanic.body)))) Under.refl hS (by kernel_rfl) ?_
        refine WA.done hS (by kernel_rfl) ?_
        refine QP.pick [0, 2, 4, 26] ?_
        refine QP.next ?_
        refine WP.cond (b := decide (a2 > (if a0.f0 > a1.f0 then a0.f0 else a1.f0))) (by kernel_rfl) (fun hc => ?_) (fun hc => ?_)
        · replace hc := of_decide_eq_true hc
          rw [if_pos hc] at h
          have hc15 := hc
          clear hc
          refine WP.seqR ?_
          refine WL.pure 0 3 [37, 39] (L' := [(37, .pointer (some ⟨b0, 0, none⟩)), (39, .agg #[.int .i64 a2, .int .i64 0])]) (by kernel_rfl) (by decide) ?_
          refine WL.front (i := 1) rfl ?_
          rw [Option.bind_eq_some_iff] at h
          obtain ⟨t16, ht17, h⟩ := h
          refine WL.op (op := .call { callee := (.value (.func 54)), args := #[(.tmp 37), (.tmp 39)], argTypes := #[30, 23] }) (ty := 41) (d := some 40) (g := none) (by kernel_rfl) (by kernel_rfl) (by kernel_rfl) (Does.call (f := 54) (args := [.pointer (some ⟨b0, 0, none⟩), .agg #[.int .i64 a2, .int .i64 0]]) (by kernel_rfl) (fun W hI => (stamp_Clock_set_calls a0 (⟨a2, 0⟩ : T23) b0 t16 ht17 hI))) ?_
          rintro _ _ _ ⟨rfl, rfl, rfl⟩
          refine WL.restQ 4 [6] (L' := [(6, .int .i64 t16.1)]) (by kernel_rfl) ?_
          refine WP.dropAt 1 ?_
          refine WP.ret ?_
          refine QP.blockR ?_
          refine QP.thenR ?_
          obtain rfl := Option.some.inj h
          exact QP.returned [6] [.int .i64 t16.1] _ (by kernel_rfl) (by kernel_rfl) (by kernel_rfl) (fun W hI => ⟨_, _, _, rfl, ⟨rfl, rfl, rfl⟩, hI⟩)
        · replace hc := of_decide_eq_false hc
          rw [if_neg hc] at h
          have hc15 := hc
          clear hc
          refine WP.skip ?_
          refine QP.blockN ?_
          refine QP.next ?_
          refine WP.pick [0, 4] ?_
          rw [Option.bind_eq_some_iff] at h
          obtain ⟨os20, h, hk22⟩ := h
          refine WP.cut (fun L' G' Γ' => ∃ s20 : T23, s20 = os20 ∧ ∃ (bn21 : Nat), L' = [(0, .pointer (some ⟨b0, 0, none⟩)), (7, .pointer (some ⟨bn21, 0, none⟩))] ∧ G = G' ∧ [(bn21, .cells #[.int .i64 s20.f0, .int .i64 s20.f1] 23 (0, 0))] :: [(b1, .cells #[.int .i64 a1.f0, .int .i64 a1.f1] 23 (0, 0))] :: [(b0, .cells #[.int .i64 a0.f0, .int .i64 a0.f1] 81 (0, 0))] :: Γ = Γ') ?_ ?_
          · clear hk22
            skip
            refine WP.any (N := 9) (S := [⟨some 41, [4], []⟩, ⟨some 42, [0], []⟩, ⟨some 43, [42], [1]⟩, ⟨some 44, [43], [2]⟩, ⟨some 45, [44], [3]⟩, ⟨some 46, [41, 45], [0, 4]⟩, ⟨some 47, [46], [5]⟩, ⟨some 7, [], []⟩, ⟨none, [7, 47], [0, 1, 2, 3, 4, 5, 6, 7]⟩]) (kw := 8) (G0 := G) (Γ0 := [(b1, .cells #[.int .i64 a1.f0, .int .i64 a1.f1] 23 (0, 0))] :: [(b0, .cells #[.int .i64 a0.f0, .int .i64 a0.f1] 81 (0, 0))] :: Γ) mo (by kernel_rfl) (fun hS => ?_)
            refine WA.pure [1, 2, 3] [0, 4, 44] (m := 6) (b' := 14) (L' := [(0, .pointer (some ⟨b0, 0, none⟩)), (4, .pointer (some ⟨b1, 0, none⟩)), (44, .pointer (some ⟨b0, 0, none⟩))]) (by kernel_rfl) (NoPanic.then (NoPanic.body)) Under.refl hS (by kernel_rfl) ?_
            refine WA.tellD [8] (i := 0) (m := 5) (b' := 15) (by kernel_rfl) (NoPanic.then (NoPanic.body)) Under.refl hS (by kernel_rfl) (op := .load 23 (.tmp 4)) (ty := 23) (d := some 41) (g := none) (by kernel_rfl) (by kernel_rfl) (by kernel_rfl) (Tells.load_box (i := 0) (b := b1) (o := 0) (agg := true) (by rfl) ag23 (by kernel_rfl) (fun h => by cases h) (Nat.le_of_ble_eq_true rfl) (v := .agg #[.int .i64 a1.f0, .int .i64 a1.f1]) (by kernel_rfl)) ?_
            refine WA.tellD [8] (i := 4) (m := 4) (b' := 31) (by kernel_rfl) (NoPanic.then (NoPanic.body)) Under.refl hS (by kernel_rfl) (op := .load 23 (.tmp 44)) (ty := 23) (d := some 45) (g := none) (by kernel_rfl) (by kernel_rfl) (by kernel_rfl) (Tells.load_box (i := 1) (b := b0) (o := 0) (agg := true) (by rfl) ag23 (by kernel_rfl) (fun h => by cases h) (Nat.le_of_ble_eq_true rfl) (v := .agg #[.int .i64 a0.f0, .int .i64 a0.f1]) (by kernel_rfl)) ?_
            refine WA.two (i := 5) (j := 7) (m := 3) (by kernel_rfl) hS (by kernel_rfl) ?_ ?_
            · refine WO.op (b' := 63) (by kernel_rfl) (op := .buildSlice 24 2 #[(0, (.tmp 41)), (1, (.tmp 45))]) (ty := 24) (d := some 46) (g := none) (by kernel_rfl) (by kernel_rfl) (by kernel_rfl) (Does.new (o := .cells #[.int .i64 a1.f0, .int .i64 a1.f1, .int .i64 a0.f0, .int .i64 a0.f1] 23 (0, 0)) (v := fun r => .slice (some ⟨r, 0, none⟩) 2 2) (fun r => by kernel_rfl)) ?_
              rintro _ _ _ ⟨b23, rfl, rfl, rfl⟩
              refine ⟨_, _, Under.cons Under.refl, Under.refl, ?_⟩
              have Ho25 : Ow k23 G (some ⟨b23, 0, none⟩) 2 ([a1, (⟨a0.f0, a0.f1⟩ : T23)] : List T23) [(b23, .cells #[.int .i64 a1.f0, .int .i64 a1.f1, .int .i64 a0.f0, .int .i64 a0.f1] 23 (0, 0))] := Ow.lit (kd := k23) (G := G) (b := b23) (T := 23) (xs := ([a1, (⟨a0.f0, a0.f1⟩ : T23)] : List T23)) (cs := [.int .i64 a1.f0, .int .i64 a1.f1, .int .i64 a0.f0, .int .i64 a0.f1]) (.cons (x := a1) (cs := [.int .i64 a1.f0, .int .i64 a1.f1]) (by exact rfl) (.cons (x := (⟨a0.f0, a0.f1⟩ : T23)) (cs := [.int .i64 a0.f0, .int .i64 a0.f1]) (by exact rfl) .nil))
              refine WA.two (i := 6) (j := 7) (m := 2) (by kernel_rfl) hS (by kernel_rfl) ?_ ?_
              · rw [Option.bind_eq_some_iff] at h
                obtain ⟨t26, ht27, h⟩ := h
                refine WO.op (b' := 127) (by kernel_rfl) (op := .call { callee := (.value (.func 22)), args := #[(.tmp 46)], argTypes := #[24] }) (ty := 23) (d := some 47) (g := none) (by kernel_rfl) (by kernel_rfl) (by kernel_rfl) (Does.call (Φ := fun v' G' Γ' => v' = .agg #[.int .i64 t26.f0, .int .i64 t26.f1] ∧ G = G' ∧ [(b23, .cells #[.int .i64 a1.f0, .int .i64 a1.f1, .int .i64 a0.f0, .int .i64 a0.f1] 23 (0, 0))] :: [(b1, .cells #[.int .i64 a1.f0, .int .i64 a1.f1] 23 (0, 0))] :: [(b0, .cells #[.int .i64 a0.f0, .int .i64 a0.f1] 81 (0, 0))] :: Γ = Γ') (f := 22) (args := [.slice (some ⟨b23, 0, none⟩) ([a1, (⟨a0.f0, a0.f1⟩ : T23)] : List T23).length 2]) (by kernel_rfl) (fun W hI => (Calls.lendH (Φ := fun v' N => v' = .agg #[.int .i64 t26.f0, .int .i64 t26.f1] ∧ N = []) (H := []) (i := 0) rfl (Ow.nodup Ho25) hI (fun _ e l30 hI => by subst e; exact (((stamp_Max_calls k ([a1, (⟨a0.f0, a0.f1⟩ : T23)] : List T23) (some ⟨b23, 0, none⟩) 2 (Ho25.rd l30) t26 ht27 hI)).mono fun _ _ hr => by obtain ⟨_, _, _, rfl, hd, hI⟩ := hr; obtain ⟨rfl, rfl, rfl⟩ := hd; exact ⟨_, _, _, rfl, ⟨[], ⟨rfl, rfl⟩, rfl, rfl⟩, hI⟩))).mono fun _ _ hr => by obtain ⟨_, _, _, rfl, ⟨_, hd, rfl, rfl⟩, hI⟩ := hr; obtain ⟨rfl, rfl⟩ := hd; exact ⟨_, _, _, rfl, ⟨rfl, rfl, rfl⟩, hI⟩)) ?_
                rintro _ _ _ ⟨rfl, rfl, rfl⟩
                refine ⟨_, _, Under.refl, Under.refl, ?_⟩
                refine WA.op (i := 7) (m := 1) (b' := 255) (by kernel_rfl) hS (by kernel_rfl) (op := .alloc 23) (ty := 0) (d := some 7) (g := none) (by kernel_rfl) (by kernel_rfl) (by kernel_rfl) (Does.new (o := .cells #[.int .i64 0, .int .i64 0] 23 (0, 0)) (v := fun r => .pointer (some ⟨r, 0, none⟩)) (fun r => by kernel_rfl)) ?_
                rintro _ _ _ ⟨b31, rfl, rfl, rfl⟩
                refine ⟨_, _, Under.cons Under.refl, Under.refl, ?_⟩
                refine WA.opK (i := 8) (kw' := 9) (m := 0) (b' := 511) (by kernel_rfl) rfl hS (by kernel_rfl) (op := .store 23 (.tmp 7) (.tmp 47)) (ty := 0) (d := none) (g := none) (by kernel_rfl) (by kernel_rfl) (by kernel_rfl) (Does.store_box (i := 0) (b := b31) (o := 0) (v := .agg #[.int .i64 t26.f0, .int .i64 t26.f1]) (by rfl) sz23 (by kernel_rfl) (by kernel_rfl) (by kernel_rfl) (Free.zero _) (Nat.le_of_ble_eq_true rfl) (cells' := #[.int .i64 t26.f0, .int .i64 t26.f1]) (by kernel_rfl)) ?_
                rintro _ _ _ ⟨rfl, rfl, rfl⟩
                refine ⟨_, _, Under.refl, ?_⟩
                refine WA.done hS (by kernel_rfl) ?_
                refine QP.pick [0, 7] ?_
                refine QP.dropAt 1 ?_
                refine QP.pick [0, 7] ?_
                exact QP.meet ⟨_, Option.some.inj h, b31, rfl, rfl, rfl⟩
              · refine WO.op (b' := 191) (by kernel_rfl) (op := .alloc 23) (ty := 0) (d := some 7) (g := none) (by kernel_rfl) (by kernel_rfl) (by kernel_rfl) (Does.new (o := .cells #[.int .i64 0, .int .i64 0] 23 (0, 0)) (v := fun r => .pointer (some ⟨r, 0, none⟩)) (fun r => by kernel_rfl)) ?_
                rintro _ _ _ ⟨b26, rfl, rfl, rfl⟩
                refine ⟨_, _, Under.cons Under.refl, Under.refl, ?_⟩
                rw [Option.bind_eq_some_iff] at h
                obtain ⟨t27, ht28, h⟩ := h
                refine WA.op (i := 6) (m := 1) (b' := 255) (by kernel_rfl) hS (by kernel_rfl) (op := .call { callee := (.value (.func 22)), args := #[(.tmp 46)], argTypes := #[24] }) (ty := 23) (d := some 47) (g := none) (by kernel_rfl) (by kernel_rfl) (by kernel_rfl) (Does.call (Φ := fun v' G' Γ' => v' = .agg #[.int .i64 t27.f0, .int .i64 t27.f1] ∧ G = G' ∧ [(b26, .cells #[.int .i64 0, .int .i64 0] 23 (0, 0))] :: [(b23, .cells #[.int .i64 a1.f0, .int .i64 a1.f1, .int .i64 a0.f0, .int .i64 a0.f1] 23 (0, 0))] :: [(b1, .cells #[.int .i64 a1.f0, .int .i64 a1.f1] 23 (0, 0))] :: [(b0, .cells #[.int .i64 a0.f0, .int .i64 a0.f1] 81 (0, 0))] :: Γ = Γ') (f := 22) (args := [.slice (some ⟨b23, 0, none⟩) ([a1, (⟨a0.f0, a0.f1⟩ : T23)] : List T23).length 2]) (by kernel_rfl) (fun W hI => (Calls.lendH (Φ := fun v' N => v' = .agg #[.int .i64 t27.f0, .int .i64 t27.f1] ∧ N = []) (H := []) (i := 1) rfl (Ow.nodup Ho25) hI (fun _ e l31 hI => by subst e; exact (((stamp_Max_calls k ([a1, (⟨a0.f0, a0.f1⟩ : T23)] : List T23) (some ⟨b23, 0, none⟩) 2 (Ho25.rd l31) t27 ht28 hI)).mono fun _ _ hr => by obtain ⟨_, _, _, rfl, hd, hI⟩ := hr; obtain ⟨rfl, rfl, rfl⟩ := hd; exact ⟨_, _, _, rfl, ⟨[], ⟨rfl, rfl⟩, rfl, rfl⟩, hI⟩))).mono fun _ _ hr => by obtain ⟨_, _, _, rfl, ⟨_, hd, rfl, rfl⟩, hI⟩ := hr; obtain ⟨rfl, rfl⟩ := hd; exact ⟨_, _, _, rfl, ⟨rfl, rfl, rfl⟩, hI⟩)) ?_
                rintro _ _ _ ⟨rfl, rfl, rfl⟩
                refine ⟨_, _, Under.refl, Under.refl, ?_⟩
                refine WA.opK (i := 8) (kw' := 9) (m := 0) (b' := 511) (by kernel_rfl) rfl hS (by kernel_rfl) (op := .store 23 (.tmp 7) (.tmp 47)) (ty := 0) (d := none) (g := none) (by kernel_rfl) (by kernel_rfl) (by kernel_rfl) (Does.store_box (i := 0) (b := b26) (o := 0) (v := .agg #[.int .i64 t27.f0, .int .i64 t27.f1]) (by rfl) sz23 (by kernel_rfl) (by kernel_rfl) (by kernel_rfl) (Free.zero _) (Nat.le_of_ble_eq_true rfl) (cells' := #[.int .i64 t27.f0, .int .i64 t27.f1]) (by kernel_rfl)) ?_
                rintro _ _ _ ⟨rfl, rfl, rfl⟩
                refine ⟨_, _, Under.refl, ?_⟩
                refine WA.done hS (by kernel_rfl) ?_
                refine QP.pick [0, 7] ?_
                refine QP.dropAt 1 ?_
                refine QP.pick [0, 7] ?_
                exact QP.meet ⟨_, Option.some.inj h, b26, rfl, rfl, rfl⟩
            · refine WO.op (b' := 159) (by kernel_rfl) (op := .alloc 23) (ty := 0) (d := some 7) (g := none) (by kernel_rfl) (by kernel_rfl) (by kernel_rfl) (Does.new (o := .cells #[.int .i64 0, .int .i64 0] 23 (0, 0)) (v := fun r => .pointer (some ⟨r, 0, none⟩)) (fun r => by kernel_rfl)) ?_
              rintro _ _ _ ⟨b23, rfl, rfl, rfl⟩
              refine ⟨_, _, Under.cons Under.refl, Under.refl, ?_⟩
              refine WA.op (i := 5) (m := 2) (b' := 191) (by kernel_rfl) hS (by kernel_rfl) (op := .buildSlice 24 2 #[(0, (.tmp 41)), (1, (.tmp 45))]) (ty := 24) (d := some 46) (g := none) (by kernel_rfl) (by kernel_rfl) (by kernel_rfl) (Does.new (o := .cells #[.int .i64 a1.f0, .int .i64 a1.f1, .int .i64 a0.f0, .int .i64 a0.f1] 23 (0, 0)) (v := fun r => .slice (some ⟨r, 0, none⟩) 2 2) (fun r => by kernel_rfl)) ?_
              rintro _ _ _ ⟨b24, rfl, rfl, rfl⟩
              refine ⟨_, _, Under.cons Under.refl, Under.refl, ?_⟩
              have Ho26 : Ow k23 G (some ⟨b24, 0, none⟩) 2 ([a1, (⟨a0.f0, a0.f1⟩ : T23)] : List T23) [(b24, .cells #[.int .i64 a1.f0, .int .i64 a1.f1, .int .i64 a0.f0, .int .i64 a0.f1] 23 (0, 0))] := Ow.lit (kd := k23) (G := G) (b := b24) (T := 23) (xs := ([a1, (⟨a0.f0, a0.f1⟩ : T23)] : List T23)) (cs := [.int .i64 a1.f0, .int .i64 a1.f1, .int .i64 a0.f0, .int .i64 a0.f1]) (.cons (x := a1) (cs := [.int .i64 a1.f0, .int .i64 a1.f1]) (by exact rfl) (.cons (x := (⟨a0.f0, a0.f1⟩ : T23)) (cs := [.int .i64 a0.f0, .int .i64 a0.f1]) (by exact rfl) .nil))
              rw [Option.bind_eq_some_iff] at h
              obtain ⟨t27, ht28, h⟩ := h
              refine WA.op (i := 6) (m := 1) (b' := 255) (by kernel_rfl) hS (by kernel_rfl) (op := .call { callee := (.value (.func 22)), args := #[(.tmp 46)], argTypes := #[24] }) (ty := 23) (d := some 47) (g := none) (by kernel_rfl) (by kernel_rfl) (by kernel_rfl) (Does.call (Φ := fun v' G' Γ' => v' = .agg #[.int .i64 t27.f0, .int .i64 t27.f1] ∧ G = G' ∧ [(b24, .cells #[.int .i64 a1.f0, .int .i64 a1.f1, .int .i64 a0.f0, .int .i64 a0.f1] 23 (0, 0))] :: [(b23, .cells #[.int .i64 0, .int .i64 0] 23 (0, 0))] :: [(b1, .cells #[.int .i64 a1.f0, .int .i64 a1.f1] 23 (0, 0))] :: [(b0, .cells #[.int .i64 a0.f0, .int .i64 a0.f1] 81 (0, 0))] :: Γ = Γ') (f := 22) (args := [.slice (some ⟨b24, 0, none⟩) ([a1, (⟨a0.f0, a0.f1⟩ : T23)] : List T23).length 2]) (by kernel_rfl) (fun W hI => (Calls.lendH (Φ := fun v' N => v' = .agg #[.int .i64 t27.f0, .int .i64 t27.f1] ∧ N = []) (H := []) (i := 0) rfl (Ow.nodup Ho26) hI (fun _ e l31 hI => by subst e; exact (((stamp_Max_calls k ([a1, (⟨a0.f0, a0.f1⟩ : T23)] : List T23) (some ⟨b24, 0, none⟩) 2 (Ho26.rd l31) t27 ht28 hI)).mono fun _ _ hr => by obtain ⟨_, _, _, rfl, hd, hI⟩ := hr; obtain ⟨rfl, rfl, rfl⟩ := hd; exact ⟨_, _, _, rfl, ⟨[], ⟨rfl, rfl⟩, rfl, rfl⟩, hI⟩))).mono fun _ _ hr => by obtain ⟨_, _, _, rfl, ⟨_, hd, rfl, rfl⟩, hI⟩ := hr; obtain ⟨rfl, rfl⟩ := hd; exact ⟨_, _, _, rfl, ⟨rfl, rfl, rfl⟩, hI⟩)) ?_
              rintro _ _ _ ⟨rfl, rfl, rfl⟩
              refine ⟨_, _, Under.refl, Under.refl, ?_⟩
              refine WA.opK (i := 8) (kw' := 9) (m := 0) (b' := 511) (by kernel_rfl) rfl hS (by kernel_rfl) (op := .store 23 (.tmp 7) (.tmp 47)) (ty := 0) (d := none) (g := none) (by kernel_rfl) (by kernel_rfl) (by kernel_rfl) (Does.store_box (i := 1) (b := b23) (o := 0) (v := .agg #[.int .i64 t27.f0, .int .i64 t27.f1]) (by rfl) sz23 (by kernel_rfl) (by kernel_rfl) (by kernel_rfl) (Free.zero _) (Nat.le_of_ble_eq_true rfl) (cells' := #[.int .i64 t27.f0, .int .i64 t27.f1]) (by kernel_rfl)) ?_
              rintro _ _ _ ⟨rfl, rfl, rfl⟩
              refine ⟨_, _, Under.refl, ?_⟩
              refine WA.done hS (by kernel_rfl) ?_
              refine QP.pick [0, 7] ?_
              refine QP.dropAt 0 ?_
              refine QP.pick [0, 7] ?_
              exact QP.meet ⟨_, Option.some.inj h, b23, rfl, rfl, rfl⟩
          · rintro _ _ _ ⟨s20, rfl, bn21, rfl, rfl, rfl⟩
            clear h
            replace h := hk22
            refine WP.seqR ?_
            refine WL.pure 0 1 [0, 7, 48] (L' := [(0, .pointer (some ⟨b0, 0, none⟩)), (7, .pointer (some ⟨bn21, 0, none⟩)), (48, .pointer (some ⟨bn21, 1, none⟩))]) (by kernel_rfl) (by decide) ?_
            refine WL.tell (op := .load 3 (.tmp 48)) (ty := 3) (d := some 49) (g := none) (by kernel_rfl) (by kernel_rfl) (by kernel_rfl) (Tells.load_box (i := 0) (b := bn21) (o := 1) (agg := false) (by rfl) ag3 (by kernel_rfl) (fun _ => rfl) (Nat.le_of_ble_eq_true rfl) (v := .int .i64 s20.f1) (by kernel_rfl)) ?_
            refine WL.pure 2 4 [0, 7, 50, 51] (L' := [(0, .pointer (some ⟨b0, 0, none⟩)), (7, .pointer (some ⟨bn21, 0, none⟩)), (50, .int .i64 (IntKind.i64.wrap (s20.f1 + 1))), (51, .pointer (some ⟨bn21, 1, none⟩))]) (by kernel_rfl) (by decide) ?_
            refine WL.op (op := .store 3 (.tmp 51) (.tmp 50)) (ty := 0) (d := none) (g := none) (by kernel_rfl) (by kernel_rfl) (by kernel_rfl) (Does.store_box (i := 0) (b := bn21) (o := 1) (v := .int .i64 (IntKind.i64.wrap (s20.f1 + 1))) (by rfl) sz3 (by kernel_rfl) (by kernel_rfl) (by kernel_rfl) (Free.zero _) (Nat.le_of_ble_eq_true rfl) (cells' := #[.int .i64 s20.f0, .int .i64 (IntKind.i64.wrap (s20.f1 + 1))]) (by kernel_rfl)) ?_
            rintro _ _ _ ⟨rfl, rfl, rfl⟩
            refine WL.restQ 5 [0, 7] (L' := [(0, .pointer (some ⟨b0, 0, none⟩)), (7, .pointer (some ⟨bn21, 0, none⟩))]) (by kernel_rfl) ?_
            refine WP.dropAt 1 ?_
            refine WP.seqR ?_
            refine WL.pure 0 1 [7, 52] (L' := [(7, .pointer (some ⟨bn21, 0, none⟩)), (52, .pointer (some ⟨b0, 0, none⟩))]) (by kernel_rfl) (by decide) ?_
            refine WL.tell (op := .load 23 (.tmp 7)) (ty := 23) (d := some 53) (g := none) (by kernel_rfl) (by kernel_rfl) (by kernel_rfl) (Tells.load_box (i := 0) (b := bn21) (o := 0) (agg := true) (by rfl) ag23 (by kernel_rfl) (fun h => by cases h) (Nat.le_of_ble_eq_true rfl) (v := .agg #[.int .i64 s20.f0, .int .i64 (IntKind.i64.wrap (s20.f1 + 1))]) (by kernel_rfl)) ?_
            refine WL.front (i := 1) rfl ?_
            rw [Option.bind_eq_some_iff] at h
            obtain ⟨t32, ht33, h⟩ := h
            refine WL.op (op := .call { callee := (.value (.func 54)), args := #[(.tmp 52), (.tmp 53)], argTypes := #[30, 23] }) (ty := 41) (d := some 54) (g := none) (by kernel_rfl) (by kernel_rfl) (by kernel_rfl) (Does.call (f := 54) (args := [.pointer (some ⟨b0, 0, none⟩), .agg #[.int .i64 s20.f0, .int .i64 (IntKind.i64.wrap (s20.f1 + 1))]]) (by kernel_rfl) (fun W hI => (stamp_Clock_set_calls a0 (⟨s20.f0, IntKind.i64.wrap (s20.f1 + 1)⟩ : T23) b0 t32 ht33 hI))) ?_
            rintro _ _ _ ⟨rfl, rfl, rfl⟩
            refine WL.restQ 3 [6] (L' := [(6, .int .i64 t32.1)]) (by kernel_rfl) ?_
            refine WP.dropAt 1 ?_
            refine WP.ret ?_
            obtain rfl := Option.some.inj h
            exact QP.returned [6] [.int .i64 t32.1] _ (by kernel_rfl) (by kernel_rfl) (by kernel_rfl) (fun W hI => ⟨_, _, _, rfl, ⟨rfl, rfl, rfl⟩, hI⟩)

/-! ### (*grapevine/stamp.Clock).Last: function 25 -/
def stamp_Clock_Last (a0 : T81) : Option T23 := some (⟨a0.f0, a0.f1⟩ : T23)
set_option maxHeartbeats 4000000 in
theorem stamp_Clock_Last_calls {B : World} {G : GMap} {Γ : List Chunk} {W : World} (a0 : T81) (b0 : Nat) (r : T23) (h : stamp_Clock_Last a0 = some r) (hI : Inv B G ([(b0, .cells #[.int .i64 a0.f0, .int .i64 a0.f1] 81 (0, 0))] :: Γ) W) :
    Calls Try.prog 25 [.pointer (some ⟨b0, 0, none⟩)].toArray W (Ret B (fun v G' Γ' => v = .agg #[.int .i64 r.f0, .int .i64 r.f1] ∧ G = G' ∧ [(b0, .cells #[.int .i64 a0.f0, .int .i64 a0.f1] 81 (0, 0))] :: Γ = Γ')) := by
  refine calls_WP (Γ := [(b0, .cells #[.int .i64 a0.f0, .int .i64 a0.f1] 81 (0, 0))] :: Γ) (G := G) (B := B) Try.func25 rfl (by kernel_rfl) ?_ hI
  clear hI
  unfold stamp_Clock_Last at h
  refine WP.seqR ?_
  refine WL.op (op := .alloc 23) (ty := 0) (d := some 2) (g := none) (by kernel_rfl) (by kernel_rfl) (by kernel_rfl) (Does.new (o := .cells #[.int .i64 0, .int .i64 0] 23 (0, 0)) (v := fun r => .pointer (some ⟨r, 0, none⟩)) (fun r => by kernel_rfl)) ?_
  rintro _ _ _ ⟨b1, rfl, rfl, rfl⟩
  refine WL.restQ 1 [0, 2] (L' := [(0, .pointer (some ⟨b0, 0, none⟩)), (2, .pointer (some ⟨b1, 0, none⟩))]) (by kernel_rfl) ?_
  refine WP.seq ?_
  refine WP.seqP [0, 2, 4] (L' := [(0, .pointer (some ⟨b0, 0, none⟩)), (2, .pointer (some ⟨b1, 0, none⟩)), (4, .bool false)]) (by kernel_rfl) ?_
  refine WP.no (by kernel_rfl) ?_
  refine WP.skip ?_
  refine QP.next ?_
  refine WP.pick [0, 2] ?_
  refine WP.seqR ?_
  refine WL.pure 0 3 [2, 8] (L' := [(2, .pointer (some ⟨b1, 0, none⟩)), (8, .pointer (some ⟨b0, 0, none⟩))]) (by kernel_rfl) (by decide) ?_
  refine WL.tell (op := .load 23 (.tmp 8)) (ty := 23) (d := some 9) (g := none) (by kernel_rfl) (by kernel_rfl) (by kernel_rfl) (Tells.load_box (i := 1) (b := b0) (o := 0) (agg := true) (by rfl) ag23 (by kernel_rfl) (fun h => by cases h) (Nat.le_of_ble_eq_true rfl) (v := .agg #[.int .i64 a0.f0, .int .i64 a0.f1]) (by kernel_rfl)) ?_
  refine WL.op (op := .store 23 (.tmp 2) (.tmp 9)) (ty := 0) (d := none) (g := none) (by kernel_rfl) (by kernel_rfl) (by kernel_rfl) (Does.store_box (i := 0) (b := b1) (o := 0) (v := .agg #[.int .i64 a0.f0, .int .i64 a0.f1]) (by rfl) sz23 (by kernel_rfl) (by kernel_rfl) (by kernel_rfl) (Free.zero _) (Nat.le_of_ble_eq_true rfl) (cells' := #[.int .i64 a0.f0, .int .i64 a0.f1]) (by kernel_rfl)) ?_
  rintro _ _ _ ⟨rfl, rfl, rfl⟩
  refine WL.restQ 5 [2] (L' := [(2, .pointer (some ⟨b1, 0, none⟩))]) (by kernel_rfl) ?_
  refine WP.ret ?_
  obtain rfl := Option.some.inj h
  refine QP.front (i := 1) rfl ?_
  exact QP.returnedM (rs := [.cell 2 23]) (by kernel_rfl) (ResAll.cons (Res1.box (p := 2) (i := 1) (o := 0) (agg := true) (by rfl) ag23 (by kernel_rfl) (fun h => by cases h) (Nat.le_of_ble_eq_true rfl) (v := .agg #[.int .i64 a0.f0, .int .i64 a0.f1]) (by kernel_rfl)) ResAll.nil) (by kernel_rfl) (fun W hI => ⟨_, _, _, rfl, ⟨rfl, rfl, rfl⟩, (hI.less 1 rfl)⟩)

/-! ### grapevine/grapevinelaw2.awake: function 17 -/
def grapevinelaw2_awake (k : Nat) : Option Bool := ((stamp_New (⟨5, 2⟩ : T23)).bind fun t1 => Option.elim t1 (some false) (fun x4 => ((stamp_Clock_Tick x4 3).bind fun t5 => ((stamp_Clock_Tick t5.2.2 9).bind fun t10 => ((stamp_Clock_See k t10.2.2 (⟨9, 4⟩ : T23) 9).bind fun t15 => ((if t5.1 = (⟨5, 3⟩ : T23) then (if t10.1 = (⟨9, 0⟩ : T23) then (if t5.2.1 = 0 then (if t10.2.1 = 0 then (if t15.1 = 0 then ((stamp_Clock_Last t15.2).bind fun t26 => (if t26 = (⟨9, 5⟩ : T23) then ((stamp_New (⟨(-1), 0⟩ : T23)).bind fun t31 => Option.elim t31 (some true) (fun x34 => some false)) else some false)) else some false) else some false) else some false) else some false) else some false).bind fun s19 => some s19))))))
set_option maxHeartbeats 4000000 in
theorem grapevinelaw2_awake_calls {B : World} {G : GMap} {Γ : List Chunk} {W : World} (k : Nat) (r : Bool) (h : grapevinelaw2_awake k  = some r) (hI : Inv B G (Γ) W) :
    Calls Try.prog 17 [].toArray W (Ret B (fun v G' Γ' => v = .bool r ∧ G = G' ∧ Γ = Γ')) := by
  refine calls_WP (Γ := Γ) (G := G) (B := B) Try.func17 rfl (by kernel_rfl) ?_ hI
  clear hI
  unfold grapevinelaw2_awake at h
  refine WP.seqP [] (L' := []) (by kernel_rfl) ?_
  refine WP.seqR ?_
  refine WL.pure 0 1 [7] (L' := [(7, .agg #[.int .i64 5, .int .i64 2])]) (by kernel_rfl) (by decide) ?_
  rw [Option.bind_eq_some_iff] at h
  obtain ⟨t1, ht2, h⟩ := h
  refine WL.op (op := .call { callee := (.value (.func 24)), args := #[(.tmp 7)], argTypes := #[23] }) (ty := 30) (d := some 8) (g := none) (by kernel_rfl) (by kernel_rfl) (by kernel_rfl) (Does.call (f := 24) (args := [.agg #[.int .i64 5, .int .i64 2]]) (by kernel_rfl) (fun W hI => (stamp_New_calls (⟨5, 2⟩ : T23)  t1 ht2 hI))) ?_
  rintro _ _ _ (⟨hx, rfl, rfl, rfl⟩ | ⟨x4, hx, bR3, rfl, rfl, rfl⟩)
  · rw [hx] at h
    rw [Option.elim_none] at h
    clear hx
    refine WL.restQ 2 [1] (L' := [(1, .pointer none)]) (by kernel_rfl) ?_
    refine WP.seq ?_
    refine WP.seqP [1, 10] (L' := [(1, .pointer none), (10, .bool true)]) (by kernel_rfl) ?_
    refine WP.yes (by kernel_rfl) ?_
    refine WP.seqP [0] (L' := [(0, .bool false)]) (by kernel_rfl) ?_
    refine WP.ret ?_
    refine QP.thenR ?_
    obtain rfl := Option.some.inj h
    exact QP.returned [0] [.bool false] _ (by kernel_rfl) (by kernel_rfl) (by kernel_rfl) (fun W hI => ⟨_, _, _, rfl, ⟨rfl, rfl, rfl⟩, hI⟩)
  · rw [hx] at h
    rw [Option.elim_some] at h
    clear hx
    refine WL.restQ 2 [1] (L' := [(1, .pointer (some ⟨bR3, 0, none⟩))]) (by kernel_rfl) ?_
    refine WP.seq ?_
    refine WP.seqP [1, 10] (L' := [(1, .pointer (some ⟨bR3, 0, none⟩)), (10, .bool false)]) (by kernel_rfl) ?_
    refine WP.no (by kernel_rfl) ?_
    refine WP.skip ?_
    refine QP.next ?_
    refine WP.pick [1] ?_
    refine WP.seqR ?_
    refine WL.pure 0 1 [1, 12] (L' := [(1, .pointer (some ⟨bR3, 0, none⟩)), (12, .pointer (some ⟨bR3, 0, none⟩))]) (by kernel_rfl) (by decide) ?_
    rw [Option.bind_eq_some_iff] at h
    obtain ⟨t5, ht6, h⟩ := h
    refine WL.op (op := .call { callee := (.value (.func 29)), args := #[(.tmp 12), (.const (.int .i64 3))], argTypes := #[30, 3] }) (ty := 44) (d := some 13) (g := none) (by kernel_rfl) (by kernel_rfl) (by kernel_rfl) (Does.call (f := 29) (args := [.pointer (some ⟨bR3, 0, none⟩), .int .i64 3]) (by kernel_rfl) (fun W hI => (stamp_Clock_Tick_calls x4 3 bR3 t5 ht6 hI))) ?_
    rintro _ _ _ ⟨rfl, rfl, rfl⟩
    refine WL.pure 2 5 [1, 14, 15] (L' := [(1, .pointer (some ⟨bR3, 0, none⟩)), (14, .agg #[.int .i64 t5.1.f0, .int .i64 t5.1.f1]), (15, .int .i64 t5.2.1)]) (by kernel_rfl) (by decide) ?_
    refine WL.op (op := .alloc 23) (ty := 0) (d := some 2) (g := none) (by kernel_rfl) (by kernel_rfl) (by kernel_rfl) (Does.new (o := .cells #[.int .i64 0, .int .i64 0] 23 (0, 0)) (v := fun r => .pointer (some ⟨r, 0, none⟩)) (fun r => by kernel_rfl)) ?_
    rintro _ _ _ ⟨b9, rfl, rfl, rfl⟩
    refine WL.op (op := .store 23 (.tmp 2) (.tmp 14)) (ty := 0) (d := none) (g := none) (by kernel_rfl) (by kernel_rfl) (by kernel_rfl) (Does.store_box (i := 0) (b := b9) (o := 0) (v := .agg #[.int .i64 t5.1.f0, .int .i64 t5.1.f1]) (by rfl) sz23 (by kernel_rfl) (by kernel_rfl) (by kernel_rfl) (Free.zero _) (Nat.le_of_ble_eq_true rfl) (cells' := #[.int .i64 t5.1.f0, .int .i64 t5.1.f1]) (by kernel_rfl)) ?_
    rintro _ _ _ ⟨rfl, rfl, rfl⟩
    refine WL.restQ 7 [1, 2, 3] (L' := [(1, .pointer (some ⟨bR3, 0, none⟩)), (2, .pointer (some ⟨b9, 0, none⟩)), (3, .int .i64 t5.2.1)]) (by kernel_rfl) ?_
    refine WP.seqR ?_
    refine WL.pure 0 1 [1, 2, 3, 17] (L' := [(1, .pointer (some ⟨bR3, 0, none⟩)), (2, .pointer (some ⟨b9, 0, none⟩)), (3, .int .i64 t5.2.1), (17, .pointer (some ⟨bR3, 0, none⟩))]) (by kernel_rfl) (by decide) ?_
    refine WL.front (i := 1) rfl ?_
    rw [Option.bind_eq_some_iff] at h
    obtain ⟨t10, ht11, h⟩ := h
    refine WL.op (op := .call { callee := (.value (.func 29)), args := #[(.tmp 17), (.const (.int .i64 9))], argTypes := #[30, 3] }) (ty := 44) (d := some 18) (g := none) (by kernel_rfl) (by kernel_rfl) (by kernel_rfl) (Does.call (f := 29) (args := [.pointer (some ⟨bR3, 0, none⟩), .int .i64 9]) (by kernel_rfl) (fun W hI => (stamp_Clock_Tick_calls t5.2.2 9 bR3 t10 ht11 hI))) ?_
    rintro _ _ _ ⟨rfl, rfl, rfl⟩
    refine WL.pure 2 5 [1, 2, 3, 19, 20] (L' := [(1, .pointer (some ⟨bR3, 0, none⟩)), (2, .pointer (some ⟨b9, 0, none⟩)), (3, .int .i64 t5.2.1), (19, .agg #[.int .i64 t10.1.f0, .int .i64 t10.1.f1]), (20, .int .i64 t10.2.1)]) (by kernel_rfl) (by decide) ?_
    refine WL.op (op := .alloc 23) (ty := 0) (d := some 4) (g := none) (by kernel_rfl) (by kernel_rfl) (by kernel_rfl) (Does.new (o := .cells #[.int .i64 0, .int .i64 0] 23 (0, 0)) (v := fun r => .pointer (some ⟨r, 0, none⟩)) (fun r => by kernel_rfl)) ?_
    rintro _ _ _ ⟨b14, rfl, rfl, rfl⟩
    refine WL.op (op := .store 23 (.tmp 4) (.tmp 19)) (ty := 0) (d := none) (g := none) (by kernel_rfl) (by kernel_rfl) (by kernel_rfl) (Does.store_box (i := 0) (b := b14) (o := 0) (v := .agg #[.int .i64 t10.1.f0, .int .i64 t10.1.f1]) (by rfl) sz23 (by kernel_rfl) (by kernel_rfl) (by kernel_rfl) (Free.zero _) (Nat.le_of_ble_eq_true rfl) (cells' := #[.int .i64 t10.1.f0, .int .i64 t10.1.f1]) (by kernel_rfl)) ?_
    rintro _ _ _ ⟨rfl, rfl, rfl⟩
    refine WL.restQ 7 [1, 2, 3, 4, 5] (L' := [(1, .pointer (some ⟨bR3, 0, none⟩)), (2, .pointer (some ⟨b9, 0, none⟩)), (3, .int .i64 t5.2.1), (4, .pointer (some ⟨b14, 0, none⟩)), (5, .int .i64 t10.2.1)]) (by kernel_rfl) ?_
    refine WP.seqR ?_
    refine WL.pure 0 2 [1, 2, 3, 4, 5, 21, 22] (L' := [(1, .pointer (some ⟨bR3, 0, none⟩)), (2, .pointer (some ⟨b9, 0, none⟩)), (3, .int .i64 t5.2.1), (4, .pointer (some ⟨b14, 0, none⟩)), (5, .int .i64 t10.2.1), (21, .pointer (some ⟨bR3, 0, none⟩)), (22, .agg #[.int .i64 9, .int .i64 4])]) (by kernel_rfl) (by decide) ?_
    refine WL.front (i := 1) rfl ?_
    rw [Option.bind_eq_some_iff] at h
    obtain ⟨t15, ht16, h⟩ := h
    refine WL.op (op := .call { callee := (.value (.func 27)), args := #[(.tmp 21), (.tmp 22), (.const (.int .i64 9))], argTypes := #[30, 23, 3] }) (ty := 41) (d := some 23) (g := none) (by kernel_rfl) (by kernel_rfl) (by kernel_rfl) (Does.call (f := 27) (args := [.pointer (some ⟨bR3, 0, none⟩), .agg #[.int .i64 9, .int .i64 4], .int .i64 9]) (by kernel_rfl) (fun W hI => (stamp_Clock_See_calls k t10.2.2 (⟨9, 4⟩ : T23) 9 bR3 t15 ht16 hI))) ?_
    rintro _ _ _ ⟨rfl, rfl, rfl⟩
    refine WL.restQ 3 [1, 2, 3, 4, 5, 6] (L' := [(1, .pointer (some ⟨bR3, 0, none⟩)), (2, .pointer (some ⟨b9, 0, none⟩)), (3, .int .i64 t5.2.1), (4, .pointer (some ⟨b14, 0, none⟩)), (5, .int .i64 t10.2.1), (6, .int .i64 t15.1)]) (by kernel_rfl) ?_
    rw [Option.bind_eq_some_iff] at h
    obtain ⟨os19, h, hk20⟩ := h
    refine WP.cut (fun L' G' Γ' => ∃ s19 : Bool, s19 = os19 ∧ L' = [(0, .bool s19)] ∧ G = G' ∧ [(bR3, .cells #[.int .i64 t15.2.f0, .int .i64 t15.2.f1] 81 (0, 0))] :: [(b14, .cells #[.int .i64 t10.1.f0, .int .i64 t10.1.f1] 23 (0, 0))] :: [(b9, .cells #[.int .i64 t5.1.f0, .int .i64 t5.1.f1] 23 (0, 0))] :: Γ = Γ') ?_ ?_
    · clear hk20
      refine WP.region ?_
      refine WL.tell (op := .load 23 (.tmp 2)) (ty := 23) (d := some 24) (g := none) (by kernel_rfl) (by kernel_rfl) (by kernel_rfl) (Tells.load_box (i := 2) (b := b9) (o := 0) (agg := true) (by rfl) ag23 (by kernel_rfl) (fun h => by cases h) (Nat.le_of_ble_eq_true rfl) (v := .agg #[.int .i64 t5.1.f0, .int .i64 t5.1.f1]) (by kernel_rfl)) ?_
      refine WL.pure 1 2 [1, 3, 4, 5, 6, 24, 25] (L' := [(1, .pointer (some ⟨bR3, 0, none⟩)), (3, .int .i64 t5.2.1), (4, .pointer (some ⟨b14, 0, none⟩)), (5, .int .i64 t10.2.1), (6, .int .i64 t15.1), (24, .agg #[.int .i64 t5.1.f0, .int .i64 t5.1.f1]), (25, .agg #[.int .i64 5, .int .i64 3])]) (by kernel_rfl) (by decide) ?_
      refine WL.tell (op := .binOp .eql 23 (.tmp 24) (.tmp 25) 23) (ty := 4) (d := some 26) (g := none) (by kernel_rfl) (by kernel_rfl) (by kernel_rfl) (Tells.eqAgg (xs := #[.int .i64 t5.1.f0, .int .i64 t5.1.f1]) (ys := #[.int .i64 5, .int .i64 3]) (ls := [.int t5.1.f0 5, .int t5.1.f1 3]) (by kernel_rfl) (by kernel_rfl) (by kernel_rfl) eg23) ?_
      refine WL.reput 26 (v := .bool ([.int t5.1.f0 5, .int t5.1.f1 3].all Lf.ok)) (v' := .bool (decide (t5.1 = (⟨5, 3⟩ : T23)))) (by kernel_rfl) (by exact (congrArg Value.bool (eqT23 t5.1 (⟨5, 3⟩ : T23)))) ?_
      refine WL.pure 3 4 [1, 3, 4, 5, 6, 27] (L' := [(1, .pointer (some ⟨bR3, 0, none⟩)), (3, .int .i64 t5.2.1), (4, .pointer (some ⟨b14, 0, none⟩)), (5, .int .i64 t10.2.1), (6, .int .i64 t15.1), (27, .bool (decide (t5.1 = (⟨5, 3⟩ : T23))))]) (by kernel_rfl) (by decide) ?_
      refine WL.split 27 (b := decide (t5.1 = (⟨5, 3⟩ : T23))) (by kernel_rfl) (fun hc => ?_) (fun hc => ?_)
      · replace hc := of_decide_eq_true hc
        rw [if_pos hc] at h
        have hc21 := hc
        clear hc
        refine WL.tell (op := .load 23 (.tmp 4)) (ty := 23) (d := some 28) (g := some (3, true)) (by kernel_rfl) (by kernel_rfl) (by kernel_rfl) (Tells.load_box (i := 1) (b := b14) (o := 0) (agg := true) (by rfl) ag23 (by kernel_rfl) (fun h => by cases h) (Nat.le_of_ble_eq_true rfl) (v := .agg #[.int .i64 t10.1.f0, .int .i64 t10.1.f1]) (by kernel_rfl)) ?_
        refine WL.pure 5 6 [1, 3, 5, 6, 27, 28, 29] (L' := [(1, .pointer (some ⟨bR3, 0, none⟩)), (3, .int .i64 t5.2.1), (5, .int .i64 t10.2.1), (6, .int .i64 t15.1), (27, .bool true), (28, .agg #[.int .i64 t10.1.f0, .int .i64 t10.1.f1]), (29, .agg #[.int .i64 9, .int .i64 0])]) (by kernel_rfl) (by decide) ?_
        refine WL.tell (op := .binOp .eql 23 (.tmp 28) (.tmp 29) 23) (ty := 4) (d := some 30) (g := some (3, true)) (by kernel_rfl) (by kernel_rfl) (by kernel_rfl) (Tells.eqAgg (xs := #[.int .i64 t10.1.f0, .int .i64 t10.1.f1]) (ys := #[.int .i64 9, .int .i64 0]) (ls := [.int t10.1.f0 9, .int t10.1.f1 0]) (by kernel_rfl) (by kernel_rfl) (by kernel_rfl) eg23) ?_
        refine WL.reput 30 (v := .bool ([.int t10.1.f0 9, .int t10.1.f1 0].all Lf.ok)) (v' := .bool (decide (t10.1 = (⟨9, 0⟩ : T23)))) (by kernel_rfl) (by exact (congrArg Value.bool (eqT23 t10.1 (⟨9, 0⟩ : T23)))) ?_
        refine WL.pure 7 9 [1, 3, 5, 6, 32] (L' := [(1, .pointer (some ⟨bR3, 0, none⟩)), (3, .int .i64 t5.2.1), (5, .int .i64 t10.2.1), (6, .int .i64 t15.1), (32, .bool (decide (t10.1 = (⟨9, 0⟩ : T23))))]) (by kernel_rfl) (by decide) ?_
        refine WL.split 32 (b := decide (t10.1 = (⟨9, 0⟩ : T23))) (by kernel_rfl) (fun hc => ?_) (fun hc => ?_)
        · replace hc := of_decide_eq_true hc
          rw [if_pos hc] at h
          have hc22 := hc
          clear hc
          refine WL.pure 9 13 [1, 5, 6, 36] (L' := [(1, .pointer (some ⟨bR3, 0, none⟩)), (5, .int .i64 t10.2.1), (6, .int .i64 t15.1), (36, .bool (t5.2.1 == 0))]) (by kernel_rfl) (by decide) ?_
          refine WL.split 36 (b := (t5.2.1 == 0)) (by kernel_rfl) (fun hc => ?_) (fun hc => ?_)
          · replace hc := eq_of_beq hc
            rw [if_pos hc] at h
            have hc23 := hc
            clear hc
            refine WL.pure 13 17 [1, 6, 40] (L' := [(1, .pointer (some ⟨bR3, 0, none⟩)), (6, .int .i64 t15.1), (40, .bool (t10.2.1 == 0))]) (by kernel_rfl) (by decide) ?_
            refine WL.split 40 (b := (t10.2.1 == 0)) (by kernel_rfl) (fun hc => ?_) (fun hc => ?_)
            · replace hc := eq_of_beq hc
              rw [if_pos hc] at h
              have hc24 := hc
              clear hc
              refine WL.pure 17 21 [1, 44] (L' := [(1, .pointer (some ⟨bR3, 0, none⟩)), (44, .bool (t15.1 == 0))]) (by kernel_rfl) (by decide) ?_
              refine WL.split 44 (b := (t15.1 == 0)) (by kernel_rfl) (fun hc => ?_) (fun hc => ?_)
              · replace hc := eq_of_beq hc
                rw [if_pos hc] at h
                have hc25 := hc
                clear hc
                refine WL.pure 21 22 [44, 45] (L' := [(44, .bool true), (45, .pointer (some ⟨bR3, 0, none⟩))]) (by kernel_rfl) (by decide) ?_
                rw [Option.bind_eq_some_iff] at h
                obtain ⟨t26, ht27, h⟩ := h
                refine WL.op (op := .call { callee := (.value (.func 25)), args := #[(.tmp 45)], argTypes := #[30] }) (ty := 23) (d := some 46) (g := some (20, true)) (by kernel_rfl) (by kernel_rfl) (by kernel_rfl) (Does.call (f := 25) (args := [.pointer (some ⟨bR3, 0, none⟩)]) (by kernel_rfl) (fun W hI => (stamp_Clock_Last_calls t15.2 bR3 t26 ht27 hI))) ?_
                rintro _ _ _ ⟨rfl, rfl, rfl⟩
                refine WL.pure 23 24 [44, 46, 47] (L' := [(44, .bool true), (46, .agg #[.int .i64 t26.f0, .int .i64 t26.f1]), (47, .agg #[.int .i64 9, .int .i64 5])]) (by kernel_rfl) (by decide) ?_
                refine WL.tell (op := .binOp .eql 23 (.tmp 46) (.tmp 47) 23) (ty := 4) (d := some 48) (g := some (20, true)) (by kernel_rfl) (by kernel_rfl) (by kernel_rfl) (Tells.eqAgg (xs := #[.int .i64 t26.f0, .int .i64 t26.f1]) (ys := #[.int .i64 9, .int .i64 5]) (ls := [.int t26.f0 9, .int t26.f1 5]) (by kernel_rfl) (by kernel_rfl) (by kernel_rfl) eg23) ?_
                refine WL.reput 48 (v := .bool ([.int t26.f0 9, .int t26.f1 5].all Lf.ok)) (v' := .bool (decide (t26 = (⟨9, 5⟩ : T23)))) (by kernel_rfl) (by exact (congrArg Value.bool (eqT23 t26 (⟨9, 5⟩ : T23)))) ?_
                refine WL.pure 25 27 [50] (L' := [(50, .bool (decide (t26 = (⟨9, 5⟩ : T23))))]) (by kernel_rfl) (by decide) ?_
                refine WL.split 50 (b := decide (t26 = (⟨9, 5⟩ : T23))) (by kernel_rfl) (fun hc => ?_) (fun hc => ?_)
                · replace hc := of_decide_eq_true hc
                  rw [if_pos hc] at h
                  have hc30 := hc
                  clear hc
                  refine WL.pure 27 28 [50, 51] (L' := [(50, .bool true), (51, .agg #[.int .i64 (-1), .int .i64 0])]) (by kernel_rfl) (by decide) ?_
                  rw [Option.bind_eq_some_iff] at h
                  obtain ⟨t31, ht32, h⟩ := h
                  refine WL.op (op := .call { callee := (.value (.func 24)), args := #[(.tmp 51)], argTypes := #[23] }) (ty := 30) (d := some 52) (g := some (26, true)) (by kernel_rfl) (by kernel_rfl) (by kernel_rfl) (Does.call (f := 24) (args := [.agg #[.int .i64 (-1), .int .i64 0]]) (by kernel_rfl) (fun W hI => (stamp_New_calls (⟨(-1), 0⟩ : T23)  t31 ht32 hI))) ?_
                  rintro _ _ _ (⟨hx, rfl, rfl, rfl⟩ | ⟨x34, hx, bR33, rfl, rfl, rfl⟩)
                  · rw [hx] at h
                    rw [Option.elim_none] at h
                    clear hx
                    refine WL.rest 29 [0] (L' := [(0, .bool true)]) (by kernel_rfl) ?_
                    refine QP.pick [0] ?_
                    exact QP.meet ⟨_, Option.some.inj h, rfl, rfl, rfl⟩
                  · rw [hx] at h
                    rw [Option.elim_some] at h
                    clear hx
                    refine WL.rest 29 [0] (L' := [(0, .bool false)]) (by kernel_rfl) ?_
                    refine QP.dropAt 0 ?_
                    refine QP.pick [0] ?_
                    exact QP.meet ⟨_, Option.some.inj h, rfl, rfl, rfl⟩
                · replace hc := of_decide_eq_false hc
                  rw [if_neg hc] at h
                  have hc30 := hc
                  clear hc
                  refine WL.rest 27 [0] (L' := [(0, .bool false)]) (by kernel_rfl) ?_
                  refine QP.pick [0] ?_
                  exact QP.meet ⟨_, Option.some.inj h, rfl, rfl, rfl⟩
              · replace hc := ne_of_beq_false hc
                rw [if_neg hc] at h
                have hc25 := hc
                clear hc
                refine WL.rest 21 [0] (L' := [(0, .bool false)]) (by kernel_rfl) ?_
                refine QP.pick [0] ?_
                exact QP.meet ⟨_, Option.some.inj h, rfl, rfl, rfl⟩
            · replace hc := ne_of_beq_false hc
              rw [if_neg hc] at h
              have hc24 := hc
              clear hc
              refine WL.rest 17 [0] (L' := [(0, .bool false)]) (by kernel_rfl) ?_
              refine QP.pick [0] ?_
              exact QP.meet ⟨_, Option.some.inj h, rfl, rfl, rfl⟩
          · replace hc := ne_of_beq_false hc
            rw [if_neg hc] at h
            have hc23 := hc
            clear hc
            refine WL.rest 13 [0] (L' := [(0, .bool false)]) (by kernel_rfl) ?_
            refine QP.pick [0] ?_
            exact QP.meet ⟨_, Option.some.inj h, rfl, rfl, rfl⟩
        · replace hc := of_decide_eq_false hc
          rw [if_neg hc] at h
          have hc22 := hc
          clear hc
          refine WL.rest 9 [0] (L' := [(0, .bool false)]) (by kernel_rfl) ?_
          refine QP.pick [0] ?_
          exact QP.meet ⟨_, Option.some.inj h, rfl, rfl, rfl⟩
      · replace hc := of_decide_eq_false hc
        rw [if_neg hc] at h
        have hc21 := hc
        clear hc
        refine WL.rest 4 [0] (L' := [(0, .bool false)]) (by kernel_rfl) ?_
        refine QP.pick [0] ?_
        exact QP.meet ⟨_, Option.some.inj h, rfl, rfl, rfl⟩
    · rintro _ _ _ ⟨s19, rfl, rfl, rfl, rfl⟩
      clear h
      replace h := hk20
      refine WP.ret ?_
      obtain rfl := Option.some.inj h
      refine QP.dropAt 2 ?_
      refine QP.dropAt 1 ?_
      refine QP.dropAt 0 ?_
      exact QP.returned [0] [.bool s19] _ (by kernel_rfl) (by kernel_rfl) (by kernel_rfl) (fun W hI => ⟨_, _, _, rfl, ⟨rfl, rfl, rfl⟩, hI⟩)

/-! ### grapevine/grapevineref2.in: function 53 -/
def grapevineref2_in (a0 : Int) (a1 : Int) : Option Bool := ((if a0 ≥ 0 then some (decide (a0 ≤ a1)) else some false).bind fun s1 => some s1)
set_option maxHeartbeats 4000000 in
theorem grapevineref2_in_calls {B : World} {G : GMap} {Γ : List Chunk} {W : World} (a0 : Int) (a1 : Int) (r : Bool) (h : grapevineref2_in a0 a1 = some r) (hI : Inv B G (Γ) W) :
    Calls Try.prog 53 [.int .i64 a0, .int .i64 a1].toArray W (Ret B (fun v G' Γ' => v = .bool r ∧ G = G' ∧ Γ = Γ')) := by
  refine calls_WP (Γ := Γ) (G := G) (B := B) Try.func53 rfl (by kernel_rfl) ?_ hI
  clear hI
  unfold grapevineref2_in at h
  refine WP.seqP [0, 1] (L' := [(0, .int .i64 a0), (1, .int .i64 a1)]) (by kernel_rfl) ?_
  rw [Option.bind_eq_some_iff] at h
  obtain ⟨os1, h, hk2⟩ := h
  refine WP.cut (fun L' G' Γ' => ∃ s1 : Bool, s1 = os1 ∧ L' = [(4, .bool s1)] ∧ G = G' ∧ Γ = Γ') ?_ ?_
  · clear hk2
    refine WP.region ?_
    refine WL.pure 0 3 [0, 1, 7] (L' := [(0, .int .i64 a0), (1, .int .i64 a1), (7, .bool (decide (a0 ≥ 0)))]) (by kernel_rfl) (by decide) ?_
    refine WL.split 7 (b := decide (a0 ≥ 0)) (by kernel_rfl) (fun hc => ?_) (fun hc => ?_)
    · replace hc := of_decide_eq_true hc
      rw [if_pos hc] at h
      have hc3 := hc
      clear hc
      refine WL.rest 3 [4] (L' := [(4, .bool (decide (a0 ≤ a1)))]) (by kernel_rfl) ?_
      refine QP.pick [4] ?_
      exact QP.meet ⟨_, Option.some.inj h, rfl, rfl, rfl⟩
    · replace hc := of_decide_eq_false hc
      rw [if_neg hc] at h
      have hc3 := hc
      clear hc
      refine WL.rest 3 [4] (L' := [(4, .bool false)]) (by kernel_rfl) ?_
      refine QP.pick [4] ?_
      exact QP.meet ⟨_, Option.some.inj h, rfl, rfl, rfl⟩
  · rintro _ _ _ ⟨s1, rfl, rfl, rfl, rfl⟩
    clear h
    replace h := hk2
    refine WP.ret ?_
    obtain rfl := Option.some.inj h
    exact QP.returned [4] [.bool s1] _ (by kernel_rfl) (by kernel_rfl) (by kernel_rfl) (fun W hI => ⟨_, _, _, rfl, ⟨rfl, rfl, rfl⟩, hI⟩)

/-! ### grapevine/grapevineref2.May: function 19 -/
def grapevineref2_May (a0 : T23) : Option Bool := (((grapevineref2_in a0.f0 1099511627776).bind fun t4 => (if t4 = true then ((grapevineref2_in a0.f1 65535).bind fun t9 => some t9) else some false)).bind fun s2 => some s2)
set_option maxHeartbeats 4000000 in
theorem grapevineref2_May_calls {B : World} {G : GMap} {Γ : List Chunk} {W : World} (a0 : T23) (r : Bool) (h : grapevineref2_May a0 = some r) (hI : Inv B G (Γ) W) :
    Calls Try.prog 19 [.agg #[.int .i64 a0.f0, .int .i64 a0.f1]].toArray W (Ret B (fun v G' Γ' => v = .bool r ∧ G = G' ∧ Γ = Γ')) := by
  refine calls_WP (Γ := Γ) (G := G) (B := B) Try.func19 rfl (by kernel_rfl) ?_ hI
  clear hI
  unfold grapevineref2_May at h
  refine WP.seqR ?_
  refine WL.op (op := .box 23 (.tmp 0)) (ty := 0) (d := some 1) (g := none) (by kernel_rfl) (by kernel_rfl) (by kernel_rfl) (Does.new (o := .cells #[.int .i64 a0.f0, .int .i64 a0.f1] 23 (0, 0)) (v := fun r => .pointer (some ⟨r, 0, none⟩)) (fun r => by kernel_rfl)) ?_
  rintro _ _ _ ⟨b1, rfl, rfl, rfl⟩
  refine WL.restQ 1 [1] (L' := [(1, .pointer (some ⟨b1, 0, none⟩))]) (by kernel_rfl) ?_
  rw [Option.bind_eq_some_iff] at h
  obtain ⟨os2, h, hk3⟩ := h
  refine WP.cut (fun L' G' Γ' => ∃ s2 : Bool, s2 = os2 ∧ L' = [(2, .bool s2)] ∧ G = G' ∧ [(b1, .cells #[.int .i64 a0.f0, .int .i64 a0.f1] 23 (0, 0))] :: Γ = Γ') ?_ ?_
  · clear hk3
    refine WP.region ?_
    refine WL.pure 0 1 [1, 3] (L' := [(1, .pointer (some ⟨b1, 0, none⟩)), (3, .pointer (some ⟨b1, 0, none⟩))]) (by kernel_rfl) (by decide) ?_
    refine WL.tell (op := .load 3 (.tmp 3)) (ty := 3) (d := some 4) (g := none) (by kernel_rfl) (by kernel_rfl) (by kernel_rfl) (Tells.load_box (i := 0) (b := b1) (o := 0) (agg := false) (by rfl) ag3 (by kernel_rfl) (fun _ => rfl) (Nat.le_of_ble_eq_true rfl) (v := .int .i64 a0.f0) (by kernel_rfl)) ?_
    rw [Option.bind_eq_some_iff] at h
    obtain ⟨t4, ht5, h⟩ := h
    refine WL.op (op := .call { callee := (.value (.func 53)), args := #[(.tmp 4), (.const (.int .i64 1099511627776))], argTypes := #[3, 3] }) (ty := 4) (d := some 5) (g := none) (by kernel_rfl) (by kernel_rfl) (by kernel_rfl) (Does.call (f := 53) (args := [.int .i64 a0.f0, .int .i64 1099511627776]) (by kernel_rfl) (fun W hI => (grapevineref2_in_calls a0.f0 1099511627776  t4 ht5 hI))) ?_
    rintro _ _ _ ⟨rfl, rfl, rfl⟩
    refine WL.pure 3 4 [1, 6] (L' := [(1, .pointer (some ⟨b1, 0, none⟩)), (6, .bool t4)]) (by kernel_rfl) (by decide) ?_
    refine WL.split 6 (b := t4) (by kernel_rfl) (fun hc => ?_) (fun hc => ?_)
    · replace hc := hc
      rw [if_pos hc] at h
      have hc8 := hc
      clear hc
      refine WL.pure 4 5 [6, 7] (L' := [(6, .bool true), (7, .pointer (some ⟨b1, 1, none⟩))]) (by kernel_rfl) (by decide) ?_
      refine WL.tell (op := .load 3 (.tmp 7)) (ty := 3) (d := some 8) (g := some (3, true)) (by kernel_rfl) (by kernel_rfl) (by kernel_rfl) (Tells.load_box (i := 0) (b := b1) (o := 1) (agg := false) (by rfl) ag3 (by kernel_rfl) (fun _ => rfl) (Nat.le_of_ble_eq_true rfl) (v := .int .i64 a0.f1) (by kernel_rfl)) ?_
      rw [Option.bind_eq_some_iff] at h
      obtain ⟨t9, ht10, h⟩ := h
      refine WL.op (op := .call { callee := (.value (.func 53)), args := #[(.tmp 8), (.const (.int .i64 65535))], argTypes := #[3, 3] }) (ty := 4) (d := some 9) (g := some (3, true)) (by kernel_rfl) (by kernel_rfl) (by kernel_rfl) (Does.call (f := 53) (args := [.int .i64 a0.f1, .int .i64 65535]) (by kernel_rfl) (fun W hI => (grapevineref2_in_calls a0.f1 65535  t9 ht10 hI))) ?_
      rintro _ _ _ ⟨rfl, rfl, rfl⟩
      refine WL.rest 7 [2] (L' := [(2, .bool t9)]) (by kernel_rfl) ?_
      refine QP.pick [2] ?_
      exact QP.meet ⟨_, Option.some.inj h, rfl, rfl, rfl⟩
    · replace hc := (Bool.eq_false_iff.1 hc)
      rw [if_neg hc] at h
      have hc8 := hc
      clear hc
      refine WL.rest 4 [2] (L' := [(2, .bool false)]) (by kernel_rfl) ?_
      refine QP.pick [2] ?_
      exact QP.meet ⟨_, Option.some.inj h, rfl, rfl, rfl⟩
  · rintro _ _ _ ⟨s2, rfl, rfl, rfl, rfl⟩
    clear h
    replace h := hk3
    refine WP.ret ?_
    obtain rfl := Option.some.inj h
    refine QP.dropAt 0 ?_
    exact QP.returned [2] [.bool s2] _ (by kernel_rfl) (by kernel_rfl) (by kernel_rfl) (fun W hI => ⟨_, _, _, rfl, ⟨rfl, rfl, rfl⟩, hI⟩)

/-! ### grapevine/grapevineref2.Less: function 21 -/
def grapevineref2_Less (a0 : T23) (a1 : T23) : Option Bool := ((if a0.f0 < a1.f0 then some true else (if a0.f0 = a1.f0 then some (decide (a0.f1 < a1.f1)) else some false)).bind fun s3 => some s3)
set_option maxHeartbeats 4000000 in
theorem grapevineref2_Less_calls {B : World} {G : GMap} {Γ : List Chunk} {W : World} (a0 : T23) (a1 : T23) (r : Bool) (h : grapevineref2_Less a0 a1 = some r) (hI : Inv B G (Γ) W) :
    Calls Try.prog 21 [.agg #[.int .i64 a0.f0, .int .i64 a0.f1], .agg #[.int .i64 a1.f0, .int .i64 a1.f1]].toArray W (Ret B (fun v G' Γ' => v = .bool r ∧ G = G' ∧ Γ = Γ')) := by
  refine calls_WP (Γ := Γ) (G := G) (B := B) Try.func21 rfl (by kernel_rfl) ?_ hI
  clear hI
  unfold grapevineref2_Less at h
  refine WP.seqR ?_
  refine WL.op (op := .box 23 (.tmp 0)) (ty := 0) (d := some 2) (g := none) (by kernel_rfl) (by kernel_rfl) (by kernel_rfl) (Does.new (o := .cells #[.int .i64 a0.f0, .int .i64 a0.f1] 23 (0, 0)) (v := fun r => .pointer (some ⟨r, 0, none⟩)) (fun r => by kernel_rfl)) ?_
  rintro _ _ _ ⟨b1, rfl, rfl, rfl⟩
  refine WL.op (op := .box 23 (.tmp 1)) (ty := 0) (d := some 3) (g := none) (by kernel_rfl) (by kernel_rfl) (by kernel_rfl) (Does.new (o := .cells #[.int .i64 a1.f0, .int .i64 a1.f1] 23 (0, 0)) (v := fun r => .pointer (some ⟨r, 0, none⟩)) (fun r => by kernel_rfl)) ?_
  rintro _ _ _ ⟨b2, rfl, rfl, rfl⟩
  refine WL.restQ 2 [2, 3] (L' := [(2, .pointer (some ⟨b1, 0, none⟩)), (3, .pointer (some ⟨b2, 0, none⟩))]) (by kernel_rfl) ?_
  rw [Option.bind_eq_some_iff] at h
  obtain ⟨os3, h, hk4⟩ := h
  refine WP.cut (fun L' G' Γ' => ∃ s3 : Bool, s3 = os3 ∧ L' = [(4, .bool s3)] ∧ G = G' ∧ [(b2, .cells #[.int .i64 a1.f0, .int .i64 a1.f1] 23 (0, 0))] :: [(b1, .cells #[.int .i64 a0.f0, .int .i64 a0.f1] 23 (0, 0))] :: Γ = Γ') ?_ ?_
  · clear hk4
    refine WP.region ?_
    refine WL.pure 0 1 [2, 3, 5] (L' := [(2, .pointer (some ⟨b1, 0, none⟩)), (3, .pointer (some ⟨b2, 0, none⟩)), (5, .pointer (some ⟨b1, 0, none⟩))]) (by kernel_rfl) (by decide) ?_
    refine WL.tell (op := .load 3 (.tmp 5)) (ty := 3) (d := some 6) (g := none) (by kernel_rfl) (by kernel_rfl) (by kernel_rfl) (Tells.load_box (i := 1) (b := b1) (o := 0) (agg := false) (by rfl) ag3 (by kernel_rfl) (fun _ => rfl) (Nat.le_of_ble_eq_true rfl) (v := .int .i64 a0.f0) (by kernel_rfl)) ?_
    refine WL.pure 2 3 [2, 3, 6, 7] (L' := [(2, .pointer (some ⟨b1, 0, none⟩)), (3, .pointer (some ⟨b2, 0, none⟩)), (6, .int .i64 a0.f0), (7, .pointer (some ⟨b2, 0, none⟩))]) (by kernel_rfl) (by decide) ?_
    refine WL.tell (op := .load 3 (.tmp 7)) (ty := 3) (d := some 8) (g := none) (by kernel_rfl) (by kernel_rfl) (by kernel_rfl) (Tells.load_box (i := 0) (b := b2) (o := 0) (agg := false) (by rfl) ag3 (by kernel_rfl) (fun _ => rfl) (Nat.le_of_ble_eq_true rfl) (v := .int .i64 a1.f0) (by kernel_rfl)) ?_
    refine WL.pure 4 6 [2, 3, 10] (L' := [(2, .pointer (some ⟨b1, 0, none⟩)), (3, .pointer (some ⟨b2, 0, none⟩)), (10, .bool (decide (a0.f0 < a1.f0)))]) (by kernel_rfl) (by decide) ?_
    refine WL.split 10 (b := decide (a0.f0 < a1.f0)) (by kernel_rfl) (fun hc => ?_) (fun hc => ?_)
    · replace hc := of_decide_eq_true hc
      rw [if_pos hc] at h
      have hc5 := hc
      clear hc
      refine WL.rest 6 [4] (L' := [(4, .bool true)]) (by kernel_rfl) ?_
      refine QP.pick [4] ?_
      exact QP.meet ⟨_, Option.some.inj h, rfl, rfl, rfl⟩
    · replace hc := of_decide_eq_false hc
      rw [if_neg hc] at h
      have hc5 := hc
      clear hc
      refine WL.pure 6 7 [2, 3, 10, 11] (L' := [(2, .pointer (some ⟨b1, 0, none⟩)), (3, .pointer (some ⟨b2, 0, none⟩)), (10, .bool false), (11, .pointer (some ⟨b1, 0, none⟩))]) (by kernel_rfl) (by decide) ?_
      refine WL.tell (op := .load 3 (.tmp 11)) (ty := 3) (d := some 12) (g := some (5, false)) (by kernel_rfl) (by kernel_rfl) (by kernel_rfl) (Tells.load_box (i := 1) (b := b1) (o := 0) (agg := false) (by rfl) ag3 (by kernel_rfl) (fun _ => rfl) (Nat.le_of_ble_eq_true rfl) (v := .int .i64 a0.f0) (by kernel_rfl)) ?_
      refine WL.pure 8 9 [2, 3, 10, 12, 13] (L' := [(2, .pointer (some ⟨b1, 0, none⟩)), (3, .pointer (some ⟨b2, 0, none⟩)), (10, .bool false), (12, .int .i64 a0.f0), (13, .pointer (some ⟨b2, 0, none⟩))]) (by kernel_rfl) (by decide) ?_
      refine WL.tell (op := .load 3 (.tmp 13)) (ty := 3) (d := some 14) (g := some (5, false)) (by kernel_rfl) (by kernel_rfl) (by kernel_rfl) (Tells.load_box (i := 0) (b := b2) (o := 0) (agg := false) (by rfl) ag3 (by kernel_rfl) (fun _ => rfl) (Nat.le_of_ble_eq_true rfl) (v := .int .i64 a1.f0) (by kernel_rfl)) ?_
      refine WL.pure 10 12 [2, 3, 10, 16] (L' := [(2, .pointer (some ⟨b1, 0, none⟩)), (3, .pointer (some ⟨b2, 0, none⟩)), (10, .bool false), (16, .bool (a0.f0 == a1.f0))]) (by kernel_rfl) (by decide) ?_
      refine WL.split 16 (b := (a0.f0 == a1.f0)) (by kernel_rfl) (fun hc => ?_) (fun hc => ?_)
      · replace hc := eq_of_beq hc
        rw [if_pos hc] at h
        have hc6 := hc
        clear hc
        refine WL.pure 12 13 [3, 10, 16, 17] (L' := [(3, .pointer (some ⟨b2, 0, none⟩)), (10, .bool false), (16, .bool true), (17, .pointer (some ⟨b1, 1, none⟩))]) (by kernel_rfl) (by decide) ?_
        refine WL.tell (op := .load 3 (.tmp 17)) (ty := 3) (d := some 18) (g := some (11, true)) (by kernel_rfl) (by kernel_rfl) (by kernel_rfl) (Tells.load_box (i := 1) (b := b1) (o := 1) (agg := false) (by rfl) ag3 (by kernel_rfl) (fun _ => rfl) (Nat.le_of_ble_eq_true rfl) (v := .int .i64 a0.f1) (by kernel_rfl)) ?_
        refine WL.pure 14 15 [10, 16, 18, 19] (L' := [(10, .bool false), (16, .bool true), (18, .int .i64 a0.f1), (19, .pointer (some ⟨b2, 1, none⟩))]) (by kernel_rfl) (by decide) ?_
        refine WL.tell (op := .load 3 (.tmp 19)) (ty := 3) (d := some 20) (g := some (11, true)) (by kernel_rfl) (by kernel_rfl) (by kernel_rfl) (Tells.load_box (i := 0) (b := b2) (o := 1) (agg := false) (by rfl) ag3 (by kernel_rfl) (fun _ => rfl) (Nat.le_of_ble_eq_true rfl) (v := .int .i64 a1.f1) (by kernel_rfl)) ?_
        refine WL.rest 16 [4] (L' := [(4, .bool (decide (a0.f1 < a1.f1)))]) (by kernel_rfl) ?_
        refine QP.pick [4] ?_
        exact QP.meet ⟨_, Option.some.inj h, rfl, rfl, rfl⟩
      · replace hc := ne_of_beq_false hc
        rw [if_neg hc] at h
        have hc6 := hc
        clear hc
        refine WL.rest 12 [4] (L' := [(4, .bool false)]) (by kernel_rfl) ?_
        refine QP.pick [4] ?_
        exact QP.meet ⟨_, Option.some.inj h, rfl, rfl, rfl⟩
  · rintro _ _ _ ⟨s3, rfl, rfl, rfl, rfl⟩
    clear h
    replace h := hk4
    refine WP.ret ?_
    obtain rfl := Option.some.inj h
    refine QP.dropAt 1 ?_
    refine QP.dropAt 0 ?_
    exact QP.returned [4] [.bool s3] _ (by kernel_rfl) (by kernel_rfl) (by kernel_rfl) (fun W hI => ⟨_, _, _, rfl, ⟨rfl, rfl, rfl⟩, hI⟩)

/-! ### grapevine/grapevineref2.Max: function 23 -/
def grapevineref2_Max_l0 (l0 : List T23) : Nat → Int → T23 → Option T23
  | 0, _, _ => none
  | k + 1, y5, y6 => (if y5 < (l0.length : Int) then ((if y5 = 0 then some true else (if 0 ≤ y5 ∧ y5 < (l0.length : Int) then ((grapevineref2_Less y6 (l0.getD y5.toNat z23)).bind fun t14 => some t14) else none)).bind fun s10 => (if s10 = true then (if 0 ≤ y5 ∧ y5 < (l0.length : Int) then grapevineref2_Max_l0 l0 k (IntKind.i64.wrap (y5 + 1)) (⟨(l0.getD y5.toNat z23).f0, (l0.getD y5.toNat z23).f1⟩ : T23) else none) else grapevineref2_Max_l0 l0 k (IntKind.i64.wrap (y5 + 1)) y6)) else some y6)
def grapevineref2_Max (k : Nat) (l0 : List T23) : Option T23 := ((grapevineref2_Max_l0 l0 k 0 (⟨0, 0⟩ : T23)).bind fun s3 => some s3)
set_option maxHeartbeats 4000000 in
theorem grapevineref2_Max_calls {B : World} {G : GMap} {Γ : List Chunk} {W : World} (k : Nat) (l0 : List T23) (Al0 : Option Addr) (cl0 : Nat) (Hl0 : Rd k23 G Al0 cl0 l0) (r : T23) (h : grapevineref2_Max k l0 = some r) (hI : Inv B G (Γ) W) :
    Calls Try.prog 23 [.slice Al0 l0.length cl0].toArray W (Ret B (fun v G' Γ' => v = .agg #[.int .i64 r.f0, .int .i64 r.f1] ∧ G = G' ∧ Γ = Γ')) := by
  refine calls_WP (Γ := Γ) (G := G) (B := B) Try.func23 rfl (by kernel_rfl) ?_ hI
  clear hI
  unfold grapevineref2_Max at h
  refine WP.seqR ?_
  refine WL.op (op := .alloc 23) (ty := 0) (d := some 2) (g := none) (by kernel_rfl) (by kernel_rfl) (by kernel_rfl) (Does.new (o := .cells #[.int .i64 0, .int .i64 0] 23 (0, 0)) (v := fun r => .pointer (some ⟨r, 0, none⟩)) (fun r => by kernel_rfl)) ?_
  rintro _ _ _ ⟨b1, rfl, rfl, rfl⟩
  refine WL.restQ 1 [0, 2] (L' := [(0, .slice Al0 l0.length cl0), (2, .pointer (some ⟨b1, 0, none⟩))]) (by kernel_rfl) ?_
  refine WP.seqR ?_
  refine WL.pure 0 1 [0, 2, 5] (L' := [(0, .slice Al0 l0.length cl0), (2, .pointer (some ⟨b1, 0, none⟩)), (5, .agg #[.int .i64 0, .int .i64 0])]) (by kernel_rfl) (by decide) ?_
  refine WL.op (op := .alloc 23) (ty := 0) (d := some 3) (g := none) (by kernel_rfl) (by kernel_rfl) (by kernel_rfl) (Does.new (o := .cells #[.int .i64 0, .int .i64 0] 23 (0, 0)) (v := fun r => .pointer (some ⟨r, 0, none⟩)) (fun r => by kernel_rfl)) ?_
  rintro _ _ _ ⟨b2, rfl, rfl, rfl⟩
  refine WL.op (op := .store 23 (.tmp 3) (.tmp 5)) (ty := 0) (d := none) (g := none) (by kernel_rfl) (by kernel_rfl) (by kernel_rfl) (Does.store_box (i := 0) (b := b2) (o := 0) (v := .agg #[.int .i64 0, .int .i64 0]) (by rfl) sz23 (by kernel_rfl) (by kernel_rfl) (by kernel_rfl) (Free.zero _) (Nat.le_of_ble_eq_true rfl) (cells' := #[.int .i64 0, .int .i64 0]) (by kernel_rfl)) ?_
  rintro _ _ _ ⟨rfl, rfl, rfl⟩
  refine WL.restQ 3 [0, 2, 3] (L' := [(0, .slice Al0 l0.length cl0), (2, .pointer (some ⟨b1, 0, none⟩)), (3, .pointer (some ⟨b2, 0, none⟩))]) (by kernel_rfl) ?_
  refine WP.seq ?_
  refine WP.seqP [0, 2, 3, 4] (L' := [(0, .slice Al0 l0.length cl0), (2, .pointer (some ⟨b1, 0, none⟩)), (3, .pointer (some ⟨b2, 0, none⟩)), (4, .int .i64 0)]) (by kernel_rfl) ?_
  rw [Option.bind_eq_some_iff] at h
  obtain ⟨os3, h, hk4⟩ := h
  refine WP.cutQ (fun L' G' Γ' => ∃ s3 : T23, s3 = os3 ∧ L' = [(2, .pointer (some ⟨b1, 0, none⟩)), (3, .pointer (some ⟨b2, 0, none⟩))] ∧ G = G' ∧ [(b2, .cells #[.int .i64 s3.f0, .int .i64 s3.f1] 23 (0, 0))] :: [(b1, .cells #[.int .i64 0, .int .i64 0] 23 (0, 0))] :: Γ = Γ') ?_ ?_
  · clear hk4
    refine WP.block ?_
    refine WP.pick [0, 2, 3, 4] ?_
    refine WP.loopF (fun k7 L' G' Γ' => ∃ (y5 : Int), ∃ (y6 : T23), grapevineref2_Max_l0 l0 k7 y5 y6 = some os3 ∧ L' = [(0, .slice Al0 l0.length cl0), (2, .pointer (some ⟨b1, 0, none⟩)), (3, .pointer (some ⟨b2, 0, none⟩)), (4, .int .i64 y5)] ∧ G = G' ∧ [(b2, .cells #[.int .i64 y6.f0, .int .i64 y6.f1] 23 (0, 0))] :: [(b1, .cells #[.int .i64 0, .int .i64 0] 23 (0, 0))] :: Γ = Γ') ?_ k ⟨0, (⟨0, 0⟩ : T23), h, rfl, rfl, rfl⟩
    clear h
    rintro k8 _ _ _ ⟨y5, y6, h, rfl, rfl, rfl⟩
    cases k8 with
    | zero => exact absurd h (by simp [grapevineref2_Max_l0])
    | succ k8 =>
      simp only [grapevineref2_Max_l0] at h
      refine WP.seq ?_
      refine WP.seqP [0, 2, 3, 4, 9] (L' := [(0, .slice Al0 l0.length cl0), (2, .pointer (some ⟨b1, 0, none⟩)), (3, .pointer (some ⟨b2, 0, none⟩)), (4, .int .i64 y5), (9, .bool (decide (y5 < (l0.length : Int))))]) (by kernel_rfl) ?_
      refine WP.cond (b := decide (y5 < (l0.length : Int))) (by kernel_rfl) (fun hc => ?_) (fun hc => ?_)
      · replace hc := of_decide_eq_true hc
        rw [if_pos hc] at h
        have hc9 := hc
        clear hc
        refine WP.skip ?_
        refine QP.next ?_
        refine WP.pick [0, 2, 3, 4] ?_
        refine WP.seq ?_
        refine WP.block ?_
        rw [Option.bind_eq_some_iff] at h
        obtain ⟨os10, h, hk11⟩ := h
        refine WP.cut (fun L' G' Γ' => ∃ s10 : Bool, s10 = os10 ∧ L' = [(0, .slice Al0 l0.length cl0), (2, .pointer (some ⟨b1, 0, none⟩)), (3, .pointer (some ⟨b2, 0, none⟩)), (4, .int .i64 y5), (21, .bool s10)] ∧ G = G' ∧ [(b2, .cells #[.int .i64 y6.f0, .int .i64 y6.f1] 23 (0, 0))] :: [(b1, .cells #[.int .i64 0, .int .i64 0] 23 (0, 0))] :: Γ = Γ') ?_ ?_
        · clear hk11
          skip
          refine WP.any (N := 10) (S := [⟨some 12, [4], []⟩, ⟨some 13, [12], [0]⟩, ⟨some 14, [13], [1]⟩, ⟨some 15, [3, 14], [2]⟩, ⟨some 16, [0, 14], [2]⟩, ⟨some 17, [4, 14], [2]⟩, ⟨some 18, [14, 16, 17], [2, 4, 5]⟩, ⟨some 19, [14, 18], [2, 6]⟩, ⟨some 20, [14, 15, 19], [2, 3, 7]⟩, ⟨some 21, [14, 20], [2, 8]⟩]) (kw := 10) (G0 := G) (Γ0 := [(b2, .cells #[.int .i64 y6.f0, .int .i64 y6.f1] 23 (0, 0))] :: [(b1, .cells #[.int .i64 0, .int .i64 0] 23 (0, 0))] :: Γ) mo (by kernel_rfl) (fun hS => ?_)
          refine WA.pure [0, 1, 2] [0, 2, 3, 4, 14] (m := 7) (b' := 7) (L' := [(0, .slice Al0 l0.length cl0), (2, .pointer (some ⟨b1, 0, none⟩)), (3, .pointer (some ⟨b2, 0, none⟩)), (4, .int .i64 y5), (14, .bool (y5 == 0))]) (by kernel_rfl) (NoPanic.then (NoPanic.block (NoPanic.then (NoPanic.then (NoPanic.block (NoPanic.then (NoPanic.then (NoPanic.body)))))))) Under.refl hS (by kernel_rfl) ?_
          refine WA.split 14 (b := (y5 == 0)) (by kernel_rfl) (fun hc => ?_) (fun hc => ?_)
          · replace hc := eq_of_beq hc
            rw [if_pos hc] at h
            have hc12 := hc
            clear hc
            refine WA.pure [3, 4, 5, 6, 7, 8, 9] [0, 2, 3, 4, 21] (m := 0) (b' := 1023) (L' := [(0, .slice Al0 l0.length cl0), (2, .pointer (some ⟨b1, 0, none⟩)), (3, .pointer (some ⟨b2, 0, none⟩)), (4, .int .i64 y5), (21, .bool true)]) (by kernel_rfl) (NoPanic.then (NoPanic.block (NoPanic.then (NoPanic.then (NoPanic.block (NoPanic.then (NoPanic.then (NoPanic.body)))))))) Under.refl hS (by kernel_rfl) ?_
            refine WA.done hS (by kernel_rfl) ?_
            refine QP.pick [0, 2, 3, 4, 21] ?_
            refine QP.pick [0, 2, 3, 4, 21] ?_
            exact QP.meet ⟨_, Option.some.inj h, rfl, rfl, rfl⟩
          · replace hc := ne_of_beq_false hc
            rw [if_neg hc] at h
            have hc12 := hc
            clear hc
            refine WA.pure [4, 5] [0, 2, 3, 4, 14, 16, 17] (m := 5) (b' := 55) (L' := [(0, .slice Al0 l0.length cl0), (2, .pointer (some ⟨b1, 0, none⟩)), (3, .pointer (some ⟨b2, 0, none⟩)), (4, .int .i64 y5), (14, .bool false), (16, .slice Al0 l0.length cl0), (17, .int .i64 y5)]) (by kernel_rfl) (NoPanic.then (NoPanic.block (NoPanic.then (NoPanic.then (NoPanic.block (NoPanic.then (NoPanic.then (NoPanic.body)))))))) Under.refl hS (by kernel_rfl) ?_
            refine WA.tellD [] (i := 3) (m := 4) (b' := 63) (by kernel_rfl) (NoPanic.then (NoPanic.block (NoPanic.then (NoPanic.then (NoPanic.block (NoPanic.then (NoPanic.then (NoPanic.body)))))))) Under.refl hS (by kernel_rfl) (op := .load 23 (.tmp 3)) (ty := 23) (d := some 15) (g := some (2, false)) (by kernel_rfl) (by kernel_rfl) (by kernel_rfl) (Tells.load_box (i := 0) (b := b2) (o := 0) (agg := true) (by rfl) ag23 (by kernel_rfl) (fun h => by cases h) (Nat.le_of_ble_eq_true rfl) (v := .agg #[.int .i64 y6.f0, .int .i64 y6.f1]) (by kernel_rfl)) ?_
            by_cases hb13 : 0 ≤ y5 ∧ y5 < (l0.length : Int)
            case neg => rw [if_neg hb13] at h; cases h
            rw [if_pos hb13] at h
            refine WA.tellD [] (i := 6) (m := 3) (b' := 127) (by kernel_rfl) (NoPanic.then (NoPanic.block (NoPanic.then (NoPanic.then (NoPanic.block (NoPanic.then (NoPanic.then (NoPanic.body)))))))) Under.refl hS (by kernel_rfl) (op := .indexAddr 24 (.tmp 16) (.tmp 17)) (ty := 0) (d := some 18) (g := some (2, false)) (by kernel_rfl) (by kernel_rfl) (by kernel_rfl) (Tells.indexAddr (A := Al0) (n := l0.length) (c := cl0) (k := .i64) (j := y5) (by kernel_rfl) (by kernel_rfl) (Hl0.isSome hb13.1 hb13.2) hb13.1 hb13.2 sl24) ?_
            refine WA.tellDE [] (i := 7) (m := 2) (b' := 255) (by kernel_rfl) (NoPanic.then (NoPanic.block (NoPanic.then (NoPanic.then (NoPanic.block (NoPanic.then (NoPanic.then (NoPanic.body)))))))) Under.refl hS (by kernel_rfl) (op := .load 23 (.tmp 18)) (ty := 23) (d := some 19) (g := some (2, false)) (by kernel_rfl) (by kernel_rfl) (by kernel_rfl) (Hl0.load (agg := true) hb13.1 hb13.2 z23 ag23 (fun h => by cases h) (by kernel_rfl)) ?_
            rintro _ rfl
            rw [Option.bind_eq_some_iff] at h
            obtain ⟨t14, ht15, h⟩ := h
            refine WA.op (i := 8) (m := 1) (b' := 511) (by kernel_rfl) hS (by kernel_rfl) (op := .call { callee := (.value (.func 21)), args := #[(.tmp 15), (.tmp 19)], argTypes := #[23, 23] }) (ty := 4) (d := some 20) (g := some (2, false)) (by kernel_rfl) (by kernel_rfl) (by kernel_rfl) (Does.call (f := 21) (args := [.agg #[.int .i64 y6.f0, .int .i64 y6.f1], .agg #[.int .i64 ((l0.getD y5.toNat z23).f0), .int .i64 ((l0.getD y5.toNat z23).f1)]]) (by kernel_rfl) (fun W hI => (grapevineref2_Less_calls y6 (l0.getD y5.toNat z23)  t14 ht15 hI))) ?_
            rintro _ _ _ ⟨rfl, rfl, rfl⟩
            refine ⟨_, _, Under.refl, Under.refl, ?_⟩
            refine WA.pure [9] [0, 2, 3, 4, 21] (m := 0) (b' := 1023) (L' := [(0, .slice Al0 l0.length cl0), (2, .pointer (some ⟨b1, 0, none⟩)), (3, .pointer (some ⟨b2, 0, none⟩)), (4, .int .i64 y5), (21, .bool t14)]) (by kernel_rfl) (NoPanic.then (NoPanic.block (NoPanic.then (NoPanic.then (NoPanic.block (NoPanic.then (NoPanic.then (NoPanic.body)))))))) Under.refl hS (by kernel_rfl) ?_
            refine WA.done hS (by kernel_rfl) ?_
            refine QP.pick [0, 2, 3, 4, 21] ?_
            refine QP.pick [0, 2, 3, 4, 21] ?_
            exact QP.meet ⟨_, Option.some.inj h, rfl, rfl, rfl⟩
        · rintro _ _ _ ⟨s10, rfl, rfl, rfl, rfl⟩
          clear h
          replace h := hk11
          refine WP.cond (b := s10) (by kernel_rfl) (fun hc => ?_) (fun hc => ?_)
          · replace hc := hc
            rw [if_pos hc] at h
            have hc18 := hc
            clear hc
            refine WP.region ?_
            refine WL.pure 0 2 [0, 2, 3, 4, 22, 23] (L' := [(0, .slice Al0 l0.length cl0), (2, .pointer (some ⟨b1, 0, none⟩)), (3, .pointer (some ⟨b2, 0, none⟩)), (4, .int .i64 y5), (22, .slice Al0 l0.length cl0), (23, .int .i64 y5)]) (by kernel_rfl) (by decide) ?_
            by_cases hb19 : 0 ≤ y5 ∧ y5 < (l0.length : Int)
            case neg => rw [if_neg hb19] at h; cases h
            rw [if_pos hb19] at h
            refine WL.tell (op := .indexAddr 24 (.tmp 22) (.tmp 23)) (ty := 0) (d := some 24) (g := none) (by kernel_rfl) (by kernel_rfl) (by kernel_rfl) (Tells.indexAddr (A := Al0) (n := l0.length) (c := cl0) (k := .i64) (j := y5) (by kernel_rfl) (by kernel_rfl) (Hl0.isSome hb19.1 hb19.2) hb19.1 hb19.2 sl24) ?_
            refine WL.tellE (op := .load 23 (.tmp 24)) (ty := 23) (d := some 25) (g := none) (by kernel_rfl) (by kernel_rfl) (by kernel_rfl) (Hl0.load (agg := true) hb19.1 hb19.2 z23 ag23 (fun h => by cases h) (by kernel_rfl)) ?_
            rintro _ rfl
            refine WL.op (op := .store 23 (.tmp 3) (.tmp 25)) (ty := 0) (d := none) (g := none) (by kernel_rfl) (by kernel_rfl) (by kernel_rfl) (Does.store_box (i := 0) (b := b2) (o := 0) (v := .agg #[.int .i64 ((l0.getD y5.toNat z23).f0), .int .i64 ((l0.getD y5.toNat z23).f1)]) (by rfl) sz23 (by kernel_rfl) (by kernel_rfl) (by kernel_rfl) (Free.zero _) (Nat.le_of_ble_eq_true rfl) (cells' := #[.int .i64 ((l0.getD y5.toNat z23).f0), .int .i64 ((l0.getD y5.toNat z23).f1)]) (by kernel_rfl)) ?_
            rintro _ _ _ ⟨rfl, rfl, rfl⟩
            refine WL.rest 5 [0, 2, 3, 4] (L' := [(0, .slice Al0 l0.length cl0), (2, .pointer (some ⟨b1, 0, none⟩)), (3, .pointer (some ⟨b2, 0, none⟩)), (4, .int .i64 y5)]) (by kernel_rfl) ?_
            refine QP.blockN ?_
            refine QP.next ?_
            refine WP.pick [0, 2, 3, 4] ?_
            refine WP.regionP [0, 2, 3, 4] (L' := [(0, .slice Al0 l0.length cl0), (2, .pointer (some ⟨b1, 0, none⟩)), (3, .pointer (some ⟨b2, 0, none⟩)), (4, .int .i64 (IntKind.i64.wrap (y5 + 1)))]) (by kernel_rfl) ?_
            refine QP.front (i := 1) rfl ?_
            refine QP.front (i := 1) rfl ?_
            refine QP.pick [0, 2, 3, 4] ?_
            exact QP.meet ⟨k8, Nat.lt_succ_self _, (IntKind.i64.wrap (y5 + 1)), (⟨(l0.getD y5.toNat z23).f0, (l0.getD y5.toNat z23).f1⟩ : T23), h, rfl, rfl, rfl⟩
          · replace hc := (Bool.eq_false_iff.1 hc)
            rw [if_neg hc] at h
            have hc18 := hc
            clear hc
            refine WP.skip ?_
            refine QP.blockN ?_
            refine QP.next ?_
            refine WP.pick [0, 2, 3, 4] ?_
            refine WP.regionP [0, 2, 3, 4] (L' := [(0, .slice Al0 l0.length cl0), (2, .pointer (some ⟨b1, 0, none⟩)), (3, .pointer (some ⟨b2, 0, none⟩)), (4, .int .i64 (IntKind.i64.wrap (y5 + 1)))]) (by kernel_rfl) ?_
            refine QP.front (i := 1) rfl ?_
            refine QP.front (i := 1) rfl ?_
            refine QP.pick [0, 2, 3, 4] ?_
            exact QP.meet ⟨k8, Nat.lt_succ_self _, (IntKind.i64.wrap (y5 + 1)), y6, h, rfl, rfl, rfl⟩
      · replace hc := of_decide_eq_false hc
        rw [if_neg hc] at h
        have hc9 := hc
        clear hc
        refine WP.exit ?_
        refine QP.thenE ?_
        refine QP.thenE ?_
        refine QP.blockE ?_
        refine QP.pick [2, 3] ?_
        exact QP.meet ⟨_, Option.some.inj h, rfl, rfl, rfl⟩
  · rintro _ _ _ ⟨s3, rfl, rfl, rfl, rfl⟩
    clear h
    replace h := hk4
    refine QP.next ?_
    refine WP.pick [2, 3] ?_
    refine WP.seqR ?_
    refine WL.tell (op := .load 23 (.tmp 3)) (ty := 23) (d := some 26) (g := none) (by kernel_rfl) (by kernel_rfl) (by kernel_rfl) (Tells.load_box (i := 0) (b := b2) (o := 0) (agg := true) (by rfl) ag23 (by kernel_rfl) (fun h => by cases h) (Nat.le_of_ble_eq_true rfl) (v := .agg #[.int .i64 s3.f0, .int .i64 s3.f1]) (by kernel_rfl)) ?_
    refine WL.op (op := .store 23 (.tmp 2) (.tmp 26)) (ty := 0) (d := none) (g := none) (by kernel_rfl) (by kernel_rfl) (by kernel_rfl) (Does.store_box (i := 1) (b := b1) (o := 0) (v := .agg #[.int .i64 s3.f0, .int .i64 s3.f1]) (by rfl) sz23 (by kernel_rfl) (by kernel_rfl) (by kernel_rfl) (Free.zero _) (Nat.le_of_ble_eq_true rfl) (cells' := #[.int .i64 s3.f0, .int .i64 s3.f1]) (by kernel_rfl)) ?_
    rintro _ _ _ ⟨rfl, rfl, rfl⟩
    refine WL.restQ 2 [2] (L' := [(2, .pointer (some ⟨b1, 0, none⟩))]) (by kernel_rfl) ?_
    refine WP.dropAt 0 ?_
    refine WP.ret ?_
    obtain rfl := Option.some.inj h
    exact QP.returnedM (rs := [.cell 2 23]) (by kernel_rfl) (ResAll.cons (Res1.box (p := 2) (i := 0) (o := 0) (agg := true) (by rfl) ag23 (by kernel_rfl) (fun h => by cases h) (Nat.le_of_ble_eq_true rfl) (v := .agg #[.int .i64 s3.f0, .int .i64 s3.f1]) (by kernel_rfl)) ResAll.nil) (by kernel_rfl) (fun W hI => ⟨_, _, _, rfl, ⟨rfl, rfl, rfl⟩, (hI.less 0 rfl)⟩)

/-! ### grapevine/grapevinelaw0.Num: function 26 -/
def grapevinelaw0_Num (a0 : Int) : Option Int := some a0
set_option maxHeartbeats 4000000 in
theorem grapevinelaw0_Num_calls {B : World} {G : GMap} {Γ : List Chunk} {W : World} (a0 : Int) (r : Int) (h : grapevinelaw0_Num a0 = some r) (hI : Inv B G (Γ) W) :
    Calls Try.prog 26 [.int .i64 a0].toArray W (Ret B (fun v G' Γ' => v = .int .i64 r ∧ G = G' ∧ Γ = Γ')) := by
  refine calls_WP (Γ := Γ) (G := G) (B := B) Try.func26 rfl (by kernel_rfl) ?_ hI
  clear hI
  unfold grapevinelaw0_Num at h
  refine WP.seqP [0] (L' := [(0, .int .i64 a0)]) (by kernel_rfl) ?_
  refine WP.seqP [2] (L' := [(2, .int .i64 a0)]) (by kernel_rfl) ?_
  refine WP.ret ?_
  obtain rfl := Option.some.inj h
  exact QP.returned [2] [.int .i64 a0] _ (by kernel_rfl) (by kernel_rfl) (by kernel_rfl) (fun W hI => ⟨_, _, _, rfl, ⟨rfl, rfl, rfl⟩, hI⟩)

/-! ### (*grapevine/grapevineref2.Clock).See: function 28 -/
def grapevineref2_Clock_See (a0 : T36) (a1 : T23) (a2 : Int) : Option (Int × T36) := (((grapevineref2_May a1).bind fun t4 => (if (!t4) = true then some true else ((grapevineref2_in a2 1099511627776).bind fun t9 => some (!t9)))).bind fun s2 => (if s2 = true then some (2, a0) else (if (IntKind.i64.wrap (a1.f0 - a2)) > 1000 then some (5, a0) else ((some (if a0.f0 > (if a1.f0 > a2 then a1.f0 else a2) then a0.f0 else (if a1.f0 > a2 then a1.f0 else a2))).bind fun v15 => (if a1.f0 = v15 then ((some (if a1.f1 > (-1) then a1.f1 else (-1))).bind fun v18 => (if a0.f0 = v15 then (if (IntKind.i64.wrap ((if a0.f1 > v18 then a0.f1 else v18) + 1)) > 65535 then some (4, a0) else some (0, (⟨v15, IntKind.i64.wrap ((if a0.f1 > v18 then a0.f1 else v18) + 1)⟩ : T36))) else (if (IntKind.i64.wrap (v18 + 1)) > 65535 then some (4, a0) else some (0, (⟨v15, IntKind.i64.wrap (v18 + 1)⟩ : T36))))) else (if a0.f0 = v15 then ((some (if a0.f1 > (-1) then a0.f1 else (-1))).bind fun v24 => (if (IntKind.i64.wrap ((if a0.f1 > (-1) then a0.f1 else (-1)) + 1)) > 65535 then some (4, a0) else some (0, (⟨v15, IntKind.i64.wrap (v24 + 1)⟩ : T36)))) else some (0, (⟨v15, 0⟩ : T36))))))))
set_option maxHeartbeats 4000000 in
theorem grapevineref2_Clock_See_calls {B : World} {G : GMap} {Γ : List Chunk} {W : World} (a0 : T36) (a1 : T23) (a2 : Int) (b0 : Nat) (r : Int × T36) (h : grapevineref2_Clock_See a0 a1 a2 = some r) (hI : Inv B G ([(b0, .cells #[.int .i64 a0.f0, .int .i64 a0.f1] 36 (0, 0))] :: Γ) W) :
    Calls Try.prog 28 [.pointer (some ⟨b0, 0, none⟩), .agg #[.int .i64 a1.f0, .int .i64 a1.f1], .int .i64 a2].toArray W (Ret B (fun v G' Γ' => v = .int .i64 r.1 ∧ G = G' ∧ [(b0, .cells #[.int .i64 r.2.f0, .int .i64 r.2.f1] 36 (0, 0))] :: Γ = Γ')) := by
  refine calls_WP (Γ := [(b0, .cells #[.int .i64 a0.f0, .int .i64 a0.f1] 36 (0, 0))] :: Γ) (G := G) (B := B) Try.func28 rfl (by kernel_rfl) ?_ hI
  clear hI
  unfold grapevineref2_Clock_See at h
  refine WP.seqR ?_
  refine WL.op (op := .box 23 (.tmp 1)) (ty := 0) (d := some 4) (g := none) (by kernel_rfl) (by kernel_rfl) (by kernel_rfl) (Does.new (o := .cells #[.int .i64 a1.f0, .int .i64 a1.f1] 23 (0, 0)) (v := fun r => .pointer (some ⟨r, 0, none⟩)) (fun r => by kernel_rfl)) ?_
  rintro _ _ _ ⟨b1, rfl, rfl, rfl⟩
  refine WL.restQ 1 [0, 2, 4] (L' := [(0, .pointer (some ⟨b0, 0, none⟩)), (2, .int .i64 a2), (4, .pointer (some ⟨b1, 0, none⟩))]) (by kernel_rfl) ?_
  refine WP.seq ?_
  rw [Option.bind_eq_some_iff] at h
  obtain ⟨os2, h, hk3⟩ := h
  refine WP.cut (fun L' G' Γ' => ∃ s2 : Bool, s2 = os2 ∧ L' = [(0, .pointer (some ⟨b0, 0, none⟩)), (2, .int .i64 a2), (4, .pointer (some ⟨b1, 0, none⟩)), (16, .bool s2)] ∧ G = G' ∧ [(b1, .cells #[.int .i64 a1.f0, .int .i64 a1.f1] 23 (0, 0))] :: [(b0, .cells #[.int .i64 a0.f0, .int .i64 a0.f1] 36 (0, 0))] :: Γ = Γ') ?_ ?_
  · clear hk3
    refine WP.region ?_
    refine WL.tell (op := .load 23 (.tmp 4)) (ty := 23) (d := some 9) (g := none) (by kernel_rfl) (by kernel_rfl) (by kernel_rfl) (Tells.load_box (i := 0) (b := b1) (o := 0) (agg := true) (by rfl) ag23 (by kernel_rfl) (fun h => by cases h) (Nat.le_of_ble_eq_true rfl) (v := .agg #[.int .i64 a1.f0, .int .i64 a1.f1]) (by kernel_rfl)) ?_
    rw [Option.bind_eq_some_iff] at h
    obtain ⟨t4, ht5, h⟩ := h
    refine WL.op (op := .call { callee := (.value (.func 19)), args := #[(.tmp 9)], argTypes := #[23] }) (ty := 4) (d := some 10) (g := none) (by kernel_rfl) (by kernel_rfl) (by kernel_rfl) (Does.call (f := 19) (args := [.agg #[.int .i64 a1.f0, .int .i64 a1.f1]]) (by kernel_rfl) (fun W hI => (grapevineref2_May_calls a1  t4 ht5 hI))) ?_
    rintro _ _ _ ⟨rfl, rfl, rfl⟩
    refine WL.pure 2 4 [0, 2, 4, 12] (L' := [(0, .pointer (some ⟨b0, 0, none⟩)), (2, .int .i64 a2), (4, .pointer (some ⟨b1, 0, none⟩)), (12, .bool (!t4))]) (by kernel_rfl) (by decide) ?_
    refine WL.split 12 (b := (!t4)) (by kernel_rfl) (fun hc => ?_) (fun hc => ?_)
    · replace hc := hc
      rw [if_pos hc] at h
      have hc8 := hc
      clear hc
      refine WL.rest 4 [0, 2, 4, 16] (L' := [(0, .pointer (some ⟨b0, 0, none⟩)), (2, .int .i64 a2), (4, .pointer (some ⟨b1, 0, none⟩)), (16, .bool true)]) (by kernel_rfl) ?_
      refine QP.pick [0, 2, 4, 16] ?_
      exact QP.meet ⟨_, Option.some.inj h, rfl, rfl, rfl⟩
    · replace hc := (Bool.eq_false_iff.1 hc)
      rw [if_neg hc] at h
      have hc8 := hc
      clear hc
      refine WL.pure 4 5 [0, 2, 4, 12, 13] (L' := [(0, .pointer (some ⟨b0, 0, none⟩)), (2, .int .i64 a2), (4, .pointer (some ⟨b1, 0, none⟩)), (12, .bool false), (13, .int .i64 a2)]) (by kernel_rfl) (by decide) ?_
      rw [Option.bind_eq_some_iff] at h
      obtain ⟨t9, ht10, h⟩ := h
      refine WL.op (op := .call { callee := (.value (.func 53)), args := #[(.tmp 13), (.const (.int .i64 1099511627776))], argTypes := #[3, 3] }) (ty := 4) (d := some 14) (g := some (3, false)) (by kernel_rfl) (by kernel_rfl) (by kernel_rfl) (Does.call (f := 53) (args := [.int .i64 a2, .int .i64 1099511627776]) (by kernel_rfl) (fun W hI => (grapevineref2_in_calls a2 1099511627776  t9 ht10 hI))) ?_
      rintro _ _ _ ⟨rfl, rfl, rfl⟩
      refine WL.rest 6 [0, 2, 4, 16] (L' := [(0, .pointer (some ⟨b0, 0, none⟩)), (2, .int .i64 a2), (4, .pointer (some ⟨b1, 0, none⟩)), (16, .bool (!t9))]) (by kernel_rfl) ?_
      refine QP.pick [0, 2, 4, 16] ?_
      exact QP.meet ⟨_, Option.some.inj h, rfl, rfl, rfl⟩
  · rintro _ _ _ ⟨s2, rfl, rfl, rfl, rfl⟩
    clear h
    replace h := hk3
    refine WP.cond (b := s2) (by kernel_rfl) (fun hc => ?_) (fun hc => ?_)
    · replace hc := hc
      rw [if_pos hc] at h
      have hc13 := hc
      clear hc
      refine WP.seqP [6] (L' := [(6, .int .i64 2)]) (by kernel_rfl) ?_
      refine WP.dropAt 0 ?_
      refine WP.ret ?_
      refine QP.thenR ?_
      obtain rfl := Option.some.inj h
      exact QP.returned [6] [.int .i64 2] _ (by kernel_rfl) (by kernel_rfl) (by kernel_rfl) (fun W hI => ⟨_, _, _, rfl, ⟨rfl, rfl, rfl⟩, hI⟩)
    · replace hc := (Bool.eq_false_iff.1 hc)
      rw [if_neg hc] at h
      have hc13 := hc
      clear hc
      refine WP.skip ?_
      refine QP.next ?_
      refine WP.pick [0, 2, 4] ?_
      refine WP.seq ?_
      refine WP.seqR ?_
      refine WL.pure 0 1 [0, 2, 4, 17] (L' := [(0, .pointer (some ⟨b0, 0, none⟩)), (2, .int .i64 a2), (4, .pointer (some ⟨b1, 0, none⟩)), (17, .pointer (some ⟨b1, 0, none⟩))]) (by kernel_rfl) (by decide) ?_
      refine WL.tell (op := .load 3 (.tmp 17)) (ty := 3) (d := some 18) (g := none) (by kernel_rfl) (by kernel_rfl) (by kernel_rfl) (Tells.load_box (i := 0) (b := b1) (o := 0) (agg := false) (by rfl) ag3 (by kernel_rfl) (fun _ => rfl) (Nat.le_of_ble_eq_true rfl) (v := .int .i64 a1.f0) (by kernel_rfl)) ?_
      refine WL.restQ 2 [0, 2, 4, 21] (L' := [(0, .pointer (some ⟨b0, 0, none⟩)), (2, .int .i64 a2), (4, .pointer (some ⟨b1, 0, none⟩)), (21, .bool (decide ((IntKind.i64.wrap (a1.f0 - a2)) > 1000)))]) (by kernel_rfl) ?_
      refine WP.cond (b := decide ((IntKind.i64.wrap (a1.f0 - a2)) > 1000)) (by kernel_rfl) (fun hc => ?_) (fun hc => ?_)
      · replace hc := of_decide_eq_true hc
        rw [if_pos hc] at h
        have hc14 := hc
        clear hc
        refine WP.seqP [6] (L' := [(6, .int .i64 5)]) (by kernel_rfl) ?_
        refine WP.dropAt 0 ?_
        refine WP.ret ?_
        refine QP.thenR ?_
        obtain rfl := Option.some.inj h
        exact QP.returned [6] [.int .i64 5] _ (by kernel_rfl) (by kernel_rfl) (by kernel_rfl) (fun W hI => ⟨_, _, _, rfl, ⟨rfl, rfl, rfl⟩, hI⟩)
      · replace hc := of_decide_eq_false hc
        rw [if_neg hc] at h
        have hc14 := hc
        clear hc
        refine WP.skip ?_
        refine QP.next ?_
        refine WP.pick [0, 2, 4] ?_
        refine WP.seq ?_
        refine WP.any (N := 10) (S := [⟨some 22, [2], []⟩, ⟨some 23, [4], []⟩, ⟨some 24, [23], [1]⟩, ⟨some 25, [0], []⟩, ⟨some 26, [25], [3]⟩, ⟨some 27, [26], [4]⟩, ⟨some 28, [27], [5]⟩, ⟨some 29, [28], [6]⟩, ⟨some 30, [22, 24, 29], [0, 2, 7]⟩, ⟨some 7, [30], [0, 1, 2, 3, 4, 5, 6, 7, 8]⟩]) (kw := 10) (G0 := G) (Γ0 := [(b1, .cells #[.int .i64 a1.f0, .int .i64 a1.f1] 23 (0, 0))] :: [(b0, .cells #[.int .i64 a0.f0, .int .i64 a0.f1] 36 (0, 0))] :: Γ) mo (by kernel_rfl) (fun hS => ?_)
        refine WA.pure [0, 1, 3, 4, 5, 6] [0, 4, 22, 23, 28] (m := 4) (b' := 123) (L' := [(0, .pointer (some ⟨b0, 0, none⟩)), (4, .pointer (some ⟨b1, 0, none⟩)), (22, .int .i64 a2), (23, .pointer (some ⟨b1, 0, none⟩)), (28, .pointer (some ⟨b0, 0, none⟩))]) (by kernel_rfl) (NoPanic.then (NoPanic.body)) Under.refl hS (by kernel_rfl) ?_
        refine WA.tellD [] (i := 2) (m := 3) (b' := 127) (by kernel_rfl) (NoPanic.then (NoPanic.body)) Under.refl hS (by kernel_rfl) (op := .load 3 (.tmp 23)) (ty := 3) (d := some 24) (g := none) (by kernel_rfl) (by kernel_rfl) (by kernel_rfl) (Tells.load_box (i := 0) (b := b1) (o := 0) (agg := false) (by rfl) ag3 (by kernel_rfl) (fun _ => rfl) (Nat.le_of_ble_eq_true rfl) (v := .int .i64 a1.f0) (by kernel_rfl)) ?_
        refine WA.tellD [] (i := 7) (m := 2) (b' := 255) (by kernel_rfl) (NoPanic.then (NoPanic.body)) Under.refl hS (by kernel_rfl) (op := .load 3 (.tmp 28)) (ty := 3) (d := some 29) (g := none) (by kernel_rfl) (by kernel_rfl) (by kernel_rfl) (Tells.load_box (i := 1) (b := b0) (o := 0) (agg := false) (by rfl) ag3 (by kernel_rfl) (fun _ => rfl) (Nat.le_of_ble_eq_true rfl) (v := .int .i64 a0.f0) (by kernel_rfl)) ?_
        refine WA.pure [8, 9] [0, 4, 7] (m := 0) (b' := 1023) (L' := [(0, .pointer (some ⟨b0, 0, none⟩)), (4, .pointer (some ⟨b1, 0, none⟩)), (7, .int .i64 (if a0.f0 > (if a1.f0 > a2 then a1.f0 else a2) then a0.f0 else (if a1.f0 > a2 then a1.f0 else a2)))]) (by kernel_rfl) (NoPanic.then (NoPanic.body)) Under.refl hS (by kernel_rfl) ?_
        refine WA.done hS (by kernel_rfl) ?_
        refine QP.pick [0, 4, 7] ?_
        refine QP.next ?_
        obtain ⟨v15, hv16, h⟩ := Option.bind_eq_some_iff.1 h
        replace hv16 := Option.some.inj hv16
        refine WP.reput 7 (v := .int .i64 (if a0.f0 > (if a1.f0 > a2 then a1.f0 else a2) then a0.f0 else (if a1.f0 > a2 then a1.f0 else a2))) (v' := .int .i64 v15) (by kernel_rfl) (by subst hv16; rfl) ?_
        refine WP.pick [0, 4, 7] ?_
        refine WP.seqP [0, 4, 7, 8] (L' := [(0, .pointer (some ⟨b0, 0, none⟩)), (4, .pointer (some ⟨b1, 0, none⟩)), (7, .int .i64 v15), (8, .int .i64 (-1))]) (by kernel_rfl) ?_
        refine WP.seq ?_
        refine WP.seqR ?_
        refine WL.pure 0 1 [0, 4, 7, 8, 31] (L' := [(0, .pointer (some ⟨b0, 0, none⟩)), (4, .pointer (some ⟨b1, 0, none⟩)), (7, .int .i64 v15), (8, .int .i64 (-1)), (31, .pointer (some ⟨b1, 0, none⟩))]) (by kernel_rfl) (by decide) ?_
        refine WL.tell (op := .load 3 (.tmp 31)) (ty := 3) (d := some 32) (g := none) (by kernel_rfl) (by kernel_rfl) (by kernel_rfl) (Tells.load_box (i := 0) (b := b1) (o := 0) (agg := false) (by rfl) ag3 (by kernel_rfl) (fun _ => rfl) (Nat.le_of_ble_eq_true rfl) (v := .int .i64 a1.f0) (by kernel_rfl)) ?_
        refine WL.restQ 2 [0, 4, 7, 8, 34] (L' := [(0, .pointer (some ⟨b0, 0, none⟩)), (4, .pointer (some ⟨b1, 0, none⟩)), (7, .int .i64 v15), (8, .int .i64 (-1)), (34, .bool (a1.f0 == v15))]) (by kernel_rfl) ?_
        refine WP.cond (b := (a1.f0 == v15)) (by kernel_rfl) (fun hc => ?_) (fun hc => ?_)
        · replace hc := eq_of_beq hc
          rw [if_pos hc] at h
          have hc17 := hc
          clear hc
          refine WP.region ?_
          refine WL.pure 0 2 [0, 7, 8, 35, 36] (L' := [(0, .pointer (some ⟨b0, 0, none⟩)), (7, .int .i64 v15), (8, .int .i64 (-1)), (35, .int .i64 (-1)), (36, .pointer (some ⟨b1, 1, none⟩))]) (by kernel_rfl) (by decide) ?_
          refine WL.tell (op := .load 3 (.tmp 36)) (ty := 3) (d := some 37) (g := none) (by kernel_rfl) (by kernel_rfl) (by kernel_rfl) (Tells.load_box (i := 0) (b := b1) (o := 1) (agg := false) (by rfl) ag3 (by kernel_rfl) (fun _ => rfl) (Nat.le_of_ble_eq_true rfl) (v := .int .i64 a1.f1) (by kernel_rfl)) ?_
          refine WL.rest 3 [0, 7, 8] (L' := [(0, .pointer (some ⟨b0, 0, none⟩)), (7, .int .i64 v15), (8, .int .i64 (if a1.f1 > (-1) then a1.f1 else (-1)))]) (by kernel_rfl) ?_
          refine QP.next ?_
          refine WP.pick [0, 7, 8] ?_
          refine WP.seq ?_
          refine WP.seqR ?_
          refine WL.pure 0 4 [0, 7, 8, 42] (L' := [(0, .pointer (some ⟨b0, 0, none⟩)), (7, .int .i64 v15), (8, .int .i64 (if a1.f1 > (-1) then a1.f1 else (-1))), (42, .pointer (some ⟨b0, 0, none⟩))]) (by kernel_rfl) (by decide) ?_
          refine WL.tell (op := .load 3 (.tmp 42)) (ty := 3) (d := some 43) (g := none) (by kernel_rfl) (by kernel_rfl) (by kernel_rfl) (Tells.load_box (i := 1) (b := b0) (o := 0) (agg := false) (by rfl) ag3 (by kernel_rfl) (fun _ => rfl) (Nat.le_of_ble_eq_true rfl) (v := .int .i64 a0.f0) (by kernel_rfl)) ?_
          refine WL.restQ 5 [0, 7, 8, 45] (L' := [(0, .pointer (some ⟨b0, 0, none⟩)), (7, .int .i64 v15), (8, .int .i64 (if a1.f1 > (-1) then a1.f1 else (-1))), (45, .bool (a0.f0 == v15))]) (by kernel_rfl) ?_
          obtain ⟨v18, hv19, h⟩ := Option.bind_eq_some_iff.1 h
          replace hv19 := Option.some.inj hv19
          refine WP.reput 8 (v := .int .i64 (if a1.f1 > (-1) then a1.f1 else (-1))) (v' := .int .i64 v18) (by kernel_rfl) (by subst hv19; rfl) ?_
          refine WP.pick [0, 7, 8, 45] ?_
          refine WP.dropAt 0 ?_
          refine WP.cond (b := (a0.f0 == v15)) (by kernel_rfl) (fun hc => ?_) (fun hc => ?_)
          · replace hc := eq_of_beq hc
            rw [if_pos hc] at h
            have hc20 := hc
            clear hc
            refine WP.region ?_
            refine WL.pure 0 5 [0, 7, 8, 46, 50] (L' := [(0, .pointer (some ⟨b0, 0, none⟩)), (7, .int .i64 v15), (8, .int .i64 v18), (46, .int .i64 v18), (50, .pointer (some ⟨b0, 1, none⟩))]) (by kernel_rfl) (by decide) ?_
            refine WL.tell (op := .load 3 (.tmp 50)) (ty := 3) (d := some 51) (g := none) (by kernel_rfl) (by kernel_rfl) (by kernel_rfl) (Tells.load_box (i := 0) (b := b0) (o := 1) (agg := false) (by rfl) ag3 (by kernel_rfl) (fun _ => rfl) (Nat.le_of_ble_eq_true rfl) (v := .int .i64 a0.f1) (by kernel_rfl)) ?_
            refine WL.rest 6 [0, 7, 8] (L' := [(0, .pointer (some ⟨b0, 0, none⟩)), (7, .int .i64 v15), (8, .int .i64 (if a0.f1 > v18 then a0.f1 else v18))]) (by kernel_rfl) ?_
            refine QP.next ?_
            refine WP.pick [0, 7, 8] ?_
            refine WP.seq ?_
            refine WP.seqP [0, 7, 8, 55] (L' := [(0, .pointer (some ⟨b0, 0, none⟩)), (7, .int .i64 v15), (8, .int .i64 (if a0.f1 > v18 then a0.f1 else v18)), (55, .bool (decide ((IntKind.i64.wrap ((if a0.f1 > v18 then a0.f1 else v18) + 1)) > 65535)))]) (by kernel_rfl) ?_
            refine WP.cond (b := decide ((IntKind.i64.wrap ((if a0.f1 > v18 then a0.f1 else v18) + 1)) > 65535)) (by kernel_rfl) (fun hc => ?_) (fun hc => ?_)
            · replace hc := of_decide_eq_true hc
              rw [if_pos hc] at h
              have hc21 := hc
              clear hc
              refine WP.seqP [6] (L' := [(6, .int .i64 4)]) (by kernel_rfl) ?_
              refine WP.ret ?_
              refine QP.thenR ?_
              obtain rfl := Option.some.inj h
              exact QP.returned [6] [.int .i64 4] _ (by kernel_rfl) (by kernel_rfl) (by kernel_rfl) (fun W hI => ⟨_, _, _, rfl, ⟨rfl, rfl, rfl⟩, hI⟩)
            · replace hc := of_decide_eq_false hc
              rw [if_neg hc] at h
              have hc21 := hc
              clear hc
              refine WP.skip ?_
              refine QP.next ?_
              refine WP.pick [0, 7, 8] ?_
              refine WP.seqR ?_
              refine WL.pure 0 7 [60, 62] (L' := [(60, .agg #[.int .i64 v15, .int .i64 (IntKind.i64.wrap ((if a0.f1 > v18 then a0.f1 else v18) + 1))]), (62, .pointer (some ⟨b0, 0, none⟩))]) (by kernel_rfl) (by decide) ?_
              refine WL.op (op := .store 23 (.tmp 62) (.tmp 60)) (ty := 0) (d := none) (g := none) (by kernel_rfl) (by kernel_rfl) (by kernel_rfl) (Does.store_box (i := 0) (b := b0) (o := 0) (v := .agg #[.int .i64 v15, .int .i64 (IntKind.i64.wrap ((if a0.f1 > v18 then a0.f1 else v18) + 1))]) (by rfl) sz23 (by kernel_rfl) (by kernel_rfl) (by kernel_rfl) (Free.zero _) (Nat.le_of_ble_eq_true rfl) (cells' := #[.int .i64 v15, .int .i64 (IntKind.i64.wrap ((if a0.f1 > v18 then a0.f1 else v18) + 1))]) (by kernel_rfl)) ?_
              rintro _ _ _ ⟨rfl, rfl, rfl⟩
              refine WL.restQ 8 [] (L' := []) (by kernel_rfl) ?_
              refine WP.seqP [6] (L' := [(6, .int .i64 0)]) (by kernel_rfl) ?_
              refine WP.ret ?_
              obtain rfl := Option.some.inj h
              exact QP.returned [6] [.int .i64 0] _ (by kernel_rfl) (by kernel_rfl) (by kernel_rfl) (fun W hI => ⟨_, _, _, rfl, ⟨rfl, rfl, rfl⟩, hI⟩)
          · replace hc := ne_of_beq_false hc
            rw [if_neg hc] at h
            have hc20 := hc
            clear hc
            refine WP.skip ?_
            refine QP.next ?_
            refine WP.pick [0, 7, 8] ?_
            refine WP.seq ?_
            refine WP.seqP [0, 7, 8, 55] (L' := [(0, .pointer (some ⟨b0, 0, none⟩)), (7, .int .i64 v15), (8, .int .i64 v18), (55, .bool (decide ((IntKind.i64.wrap (v18 + 1)) > 65535)))]) (by kernel_rfl) ?_
            refine WP.cond (b := decide ((IntKind.i64.wrap (v18 + 1)) > 65535)) (by kernel_rfl) (fun hc => ?_) (fun hc => ?_)
            · replace hc := of_decide_eq_true hc
              rw [if_pos hc] at h
              have hc22 := hc
              clear hc
              refine WP.seqP [6] (L' := [(6, .int .i64 4)]) (by kernel_rfl) ?_
              refine WP.ret ?_
              refine QP.thenR ?_
              obtain rfl := Option.some.inj h
              exact QP.returned [6] [.int .i64 4] _ (by kernel_rfl) (by kernel_rfl) (by kernel_rfl) (fun W hI => ⟨_, _, _, rfl, ⟨rfl, rfl, rfl⟩, hI⟩)
            · replace hc := of_decide_eq_false hc
              rw [if_neg hc] at h
              have hc22 := hc
              clear hc
              refine WP.skip ?_
              refine QP.next ?_
              refine WP.pick [0, 7, 8] ?_
              refine WP.seqR ?_
              refine WL.pure 0 7 [60, 62] (L' := [(60, .agg #[.int .i64 v15, .int .i64 (IntKind.i64.wrap (v18 + 1))]), (62, .pointer (some ⟨b0, 0, none⟩))]) (by kernel_rfl) (by decide) ?_
              refine WL.op (op := .store 23 (.tmp 62) (.tmp 60)) (ty := 0) (d := none) (g := none) (by kernel_rfl) (by kernel_rfl) (by kernel_rfl) (Does.store_box (i := 0) (b := b0) (o := 0) (v := .agg #[.int .i64 v15, .int .i64 (IntKind.i64.wrap (v18 + 1))]) (by rfl) sz23 (by kernel_rfl) (by kernel_rfl) (by kernel_rfl) (Free.zero _) (Nat.le_of_ble_eq_true rfl) (cells' := #[.int .i64 v15, .int .i64 (IntKind.i64.wrap (v18 + 1))]) (by kernel_rfl)) ?_
              rintro _ _ _ ⟨rfl, rfl, rfl⟩
              refine WL.restQ 8 [] (L' := []) (by kernel_rfl) ?_
              refine WP.seqP [6] (L' := [(6, .int .i64 0)]) (by kernel_rfl) ?_
              refine WP.ret ?_
              obtain rfl := Option.some.inj h
              exact QP.returned [6] [.int .i64 0] _ (by kernel_rfl) (by kernel_rfl) (by kernel_rfl) (fun W hI => ⟨_, _, _, rfl, ⟨rfl, rfl, rfl⟩, hI⟩)
        · replace hc := ne_of_beq_false hc
          rw [if_neg hc] at h
          have hc17 := hc
          clear hc
          refine WP.skip ?_
          refine QP.next ?_
          refine WP.pick [0, 7, 8] ?_
          refine WP.seq ?_
          refine WP.seqR ?_
          refine WL.pure 0 4 [0, 7, 8, 42] (L' := [(0, .pointer (some ⟨b0, 0, none⟩)), (7, .int .i64 v15), (8, .int .i64 (-1)), (42, .pointer (some ⟨b0, 0, none⟩))]) (by kernel_rfl) (by decide) ?_
          refine WL.tell (op := .load 3 (.tmp 42)) (ty := 3) (d := some 43) (g := none) (by kernel_rfl) (by kernel_rfl) (by kernel_rfl) (Tells.load_box (i := 1) (b := b0) (o := 0) (agg := false) (by rfl) ag3 (by kernel_rfl) (fun _ => rfl) (Nat.le_of_ble_eq_true rfl) (v := .int .i64 a0.f0) (by kernel_rfl)) ?_
          refine WL.restQ 5 [0, 7, 8, 45] (L' := [(0, .pointer (some ⟨b0, 0, none⟩)), (7, .int .i64 v15), (8, .int .i64 (-1)), (45, .bool (a0.f0 == v15))]) (by kernel_rfl) ?_
          refine WP.dropAt 0 ?_
          refine WP.cond (b := (a0.f0 == v15)) (by kernel_rfl) (fun hc => ?_) (fun hc => ?_)
          · replace hc := eq_of_beq hc
            rw [if_pos hc] at h
            have hc23 := hc
            clear hc
            refine WP.region ?_
            refine WL.pure 0 5 [0, 7, 8, 46, 50] (L' := [(0, .pointer (some ⟨b0, 0, none⟩)), (7, .int .i64 v15), (8, .int .i64 (-1)), (46, .int .i64 (-1)), (50, .pointer (some ⟨b0, 1, none⟩))]) (by kernel_rfl) (by decide) ?_
            refine WL.tell (op := .load 3 (.tmp 50)) (ty := 3) (d := some 51) (g := none) (by kernel_rfl) (by kernel_rfl) (by kernel_rfl) (Tells.load_box (i := 0) (b := b0) (o := 1) (agg := false) (by rfl) ag3 (by kernel_rfl) (fun _ => rfl) (Nat.le_of_ble_eq_true rfl) (v := .int .i64 a0.f1) (by kernel_rfl)) ?_
            refine WL.rest 6 [0, 7, 8] (L' := [(0, .pointer (some ⟨b0, 0, none⟩)), (7, .int .i64 v15), (8, .int .i64 (if a0.f1 > (-1) then a0.f1 else (-1)))]) (by kernel_rfl) ?_
            refine QP.next ?_
            refine WP.pick [0, 7, 8] ?_
            refine WP.seq ?_
            refine WP.seqP [0, 7, 8, 55] (L' := [(0, .pointer (some ⟨b0, 0, none⟩)), (7, .int .i64 v15), (8, .int .i64 (if a0.f1 > (-1) then a0.f1 else (-1))), (55, .bool (decide ((IntKind.i64.wrap ((if a0.f1 > (-1) then a0.f1 else (-1)) + 1)) > 65535)))]) (by kernel_rfl) ?_
            obtain ⟨v24, hv25, h⟩ := Option.bind_eq_some_iff.1 h
            replace hv25 := Option.some.inj hv25
            refine WP.reput 8 (v := .int .i64 (if a0.f1 > (-1) then a0.f1 else (-1))) (v' := .int .i64 v24) (by kernel_rfl) (by subst hv25; rfl) ?_
            refine WP.pick [0, 7, 8, 55] ?_
            refine WP.cond (b := decide ((IntKind.i64.wrap ((if a0.f1 > (-1) then a0.f1 else (-1)) + 1)) > 65535)) (by kernel_rfl) (fun hc => ?_) (fun hc => ?_)
            · replace hc := of_decide_eq_true hc
              rw [if_pos hc] at h
              have hc26 := hc
              clear hc
              refine WP.seqP [6] (L' := [(6, .int .i64 4)]) (by kernel_rfl) ?_
              refine WP.ret ?_
              refine QP.thenR ?_
              obtain rfl := Option.some.inj h
              exact QP.returned [6] [.int .i64 4] _ (by kernel_rfl) (by kernel_rfl) (by kernel_rfl) (fun W hI => ⟨_, _, _, rfl, ⟨rfl, rfl, rfl⟩, hI⟩)
            · replace hc := of_decide_eq_false hc
              rw [if_neg hc] at h
              have hc26 := hc
              clear hc
              refine WP.skip ?_
              refine QP.next ?_
              refine WP.pick [0, 7, 8] ?_
              refine WP.seqR ?_
              refine WL.pure 0 7 [60, 62] (L' := [(60, .agg #[.int .i64 v15, .int .i64 (IntKind.i64.wrap (v24 + 1))]), (62, .pointer (some ⟨b0, 0, none⟩))]) (by kernel_rfl) (by decide) ?_
              refine WL.op (op := .store 23 (.tmp 62) (.tmp 60)) (ty := 0) (d := none) (g := none) (by kernel_rfl) (by kernel_rfl) (by kernel_rfl) (Does.store_box (i := 0) (b := b0) (o := 0) (v := .agg #[.int .i64 v15, .int .i64 (IntKind.i64.wrap (v24 + 1))]) (by rfl) sz23 (by kernel_rfl) (by kernel_rfl) (by kernel_rfl) (Free.zero _) (Nat.le_of_ble_eq_true rfl) (cells' := #[.int .i64 v15, .int .i64 (IntKind.i64.wrap (v24 + 1))]) (by kernel_rfl)) ?_
              rintro _ _ _ ⟨rfl, rfl, rfl⟩
              refine WL.restQ 8 [] (L' := []) (by kernel_rfl) ?_
              refine WP.seqP [6] (L' := [(6, .int .i64 0)]) (by kernel_rfl) ?_
              refine WP.ret ?_
              obtain rfl := Option.some.inj h
              exact QP.returned [6] [.int .i64 0] _ (by kernel_rfl) (by kernel_rfl) (by kernel_rfl) (fun W hI => ⟨_, _, _, rfl, ⟨rfl, rfl, rfl⟩, hI⟩)
          · replace hc := ne_of_beq_false hc
            rw [if_neg hc] at h
            have hc23 := hc
            clear hc
            refine WP.skip ?_
            refine QP.next ?_
            refine WP.pick [0, 7, 8] ?_
            refine WP.seq ?_
            refine WP.seqP [0, 7, 8, 55] (L' := [(0, .pointer (some ⟨b0, 0, none⟩)), (7, .int .i64 v15), (8, .int .i64 (-1)), (55, .bool false)]) (by kernel_rfl) ?_
            refine WP.no (by kernel_rfl) ?_
            refine WP.skip ?_
            refine QP.next ?_
            refine WP.pick [0, 7, 8] ?_
            refine WP.seqR ?_
            refine WL.pure 0 7 [60, 62] (L' := [(60, .agg #[.int .i64 v15, .int .i64 0]), (62, .pointer (some ⟨b0, 0, none⟩))]) (by kernel_rfl) (by decide) ?_
            refine WL.op (op := .store 23 (.tmp 62) (.tmp 60)) (ty := 0) (d := none) (g := none) (by kernel_rfl) (by kernel_rfl) (by kernel_rfl) (Does.store_box (i := 0) (b := b0) (o := 0) (v := .agg #[.int .i64 v15, .int .i64 0]) (by rfl) sz23 (by kernel_rfl) (by kernel_rfl) (by kernel_rfl) (Free.zero _) (Nat.le_of_ble_eq_true rfl) (cells' := #[.int .i64 v15, .int .i64 0]) (by kernel_rfl)) ?_
            rintro _ _ _ ⟨rfl, rfl, rfl⟩
            refine WL.restQ 8 [] (L' := []) (by kernel_rfl) ?_
            refine WP.seqP [6] (L' := [(6, .int .i64 0)]) (by kernel_rfl) ?_
            refine WP.ret ?_
            obtain rfl := Option.some.inj h
            exact QP.returned [6] [.int .i64 0] _ (by kernel_rfl) (by kernel_rfl) (by kernel_rfl) (fun W hI => ⟨_, _, _, rfl, ⟨rfl, rfl, rfl⟩, hI⟩)

/-! ### (*grapevine/grapevineref2.Clock).Tick: function 30 -/
def grapevineref2_Clock_Tick (a0 : T36) (a1 : Int) : Option (T23 × Int × T36) := ((grapevineref2_in a1 1099511627776).bind fun t2 => (if (!t2) = true then some ((⟨0, 0⟩ : T23), 2, a0) else (if a1 > a0.f0 then some ((⟨a1, 0⟩ : T23), 0, (⟨a1, 0⟩ : T36)) else (if a0.f1 ≥ 65535 then some ((⟨0, 0⟩ : T23), 4, a0) else some ((⟨a0.f0, IntKind.i64.wrap (a0.f1 + 1)⟩ : T23), 0, (⟨a0.f0, IntKind.i64.wrap (a0.f1 + 1)⟩ : T36))))))
set_option maxHeartbeats 4000000 in
theorem grapevineref2_Clock_Tick_calls {B : World} {G : GMap} {Γ : List Chunk} {W : World} (a0 : T36) (a1 : Int) (b0 : Nat) (r : T23 × Int × T36) (h : grapevineref2_Clock_Tick a0 a1 = some r) (hI : Inv B G ([(b0, .cells #[.int .i64 a0.f0, .int .i64 a0.f1] 36 (0, 0))] :: Γ) W) :
    Calls Try.prog 30 [.pointer (some ⟨b0, 0, none⟩), .int .i64 a1].toArray W (Ret B (fun v G' Γ' => v = .tuple #[.agg #[.int .i64 r.1.f0, .int .i64 r.1.f1], .int .i64 r.2.1] ∧ G = G' ∧ [(b0, .cells #[.int .i64 r.2.2.f0, .int .i64 r.2.2.f1] 36 (0, 0))] :: Γ = Γ')) := by
  refine calls_WP (Γ := [(b0, .cells #[.int .i64 a0.f0, .int .i64 a0.f1] 36 (0, 0))] :: Γ) (G := G) (B := B) Try.func30 rfl (by kernel_rfl) ?_ hI
  clear hI
  unfold grapevineref2_Clock_Tick at h
  refine WP.seqR ?_
  refine WL.op (op := .alloc 23) (ty := 0) (d := some 4) (g := none) (by kernel_rfl) (by kernel_rfl) (by kernel_rfl) (Does.new (o := .cells #[.int .i64 0, .int .i64 0] 23 (0, 0)) (v := fun r => .pointer (some ⟨r, 0, none⟩)) (fun r => by kernel_rfl)) ?_
  rintro _ _ _ ⟨b1, rfl, rfl, rfl⟩
  refine WL.restQ 1 [0, 1, 4] (L' := [(0, .pointer (some ⟨b0, 0, none⟩)), (1, .int .i64 a1), (4, .pointer (some ⟨b1, 0, none⟩))]) (by kernel_rfl) ?_
  refine WP.seq ?_
  refine WP.block ?_
  refine WP.seqR ?_
  refine WL.pure 0 1 [0, 1, 4, 16] (L' := [(0, .pointer (some ⟨b0, 0, none⟩)), (1, .int .i64 a1), (4, .pointer (some ⟨b1, 0, none⟩)), (16, .int .i64 a1)]) (by kernel_rfl) (by decide) ?_
  rw [Option.bind_eq_some_iff] at h
  obtain ⟨t2, ht3, h⟩ := h
  refine WL.op (op := .call { callee := (.value (.func 53)), args := #[(.tmp 16), (.const (.int .i64 1099511627776))], argTypes := #[3, 3] }) (ty := 4) (d := some 17) (g := none) (by kernel_rfl) (by kernel_rfl) (by kernel_rfl) (Does.call (f := 53) (args := [.int .i64 a1, .int .i64 1099511627776]) (by kernel_rfl) (fun W hI => (grapevineref2_in_calls a1 1099511627776  t2 ht3 hI))) ?_
  rintro _ _ _ ⟨rfl, rfl, rfl⟩
  refine WL.restQ 2 [0, 1, 4, 15] (L' := [(0, .pointer (some ⟨b0, 0, none⟩)), (1, .int .i64 a1), (4, .pointer (some ⟨b1, 0, none⟩)), (15, .bool (!t2))]) (by kernel_rfl) ?_
  refine WP.cond (b := (!t2)) (by kernel_rfl) (fun hc => ?_) (fun hc => ?_)
  · replace hc := hc
    rw [if_pos hc] at h
    have hc6 := hc
    clear hc
    refine WP.seqR ?_
    refine WL.pure 0 1 [4, 19] (L' := [(4, .pointer (some ⟨b1, 0, none⟩)), (19, .agg #[.int .i64 0, .int .i64 0])]) (by kernel_rfl) (by decide) ?_
    refine WL.op (op := .store 23 (.tmp 4) (.tmp 19)) (ty := 0) (d := none) (g := none) (by kernel_rfl) (by kernel_rfl) (by kernel_rfl) (Does.store_box (i := 0) (b := b1) (o := 0) (v := .agg #[.int .i64 0, .int .i64 0]) (by rfl) sz23 (by kernel_rfl) (by kernel_rfl) (by kernel_rfl) (Free.zero _) (Nat.le_of_ble_eq_true rfl) (cells' := #[.int .i64 0, .int .i64 0]) (by kernel_rfl)) ?_
    rintro _ _ _ ⟨rfl, rfl, rfl⟩
    refine WL.restQ 2 [4, 5] (L' := [(4, .pointer (some ⟨b1, 0, none⟩)), (5, .int .i64 2)]) (by kernel_rfl) ?_
    refine WP.ret ?_
    refine QP.blockR ?_
    refine QP.thenR ?_
    obtain rfl := Option.some.inj h
    refine QP.front (i := 1) rfl ?_
    exact QP.returnedM (rs := [.cell 4 23, .tmp 5]) (by kernel_rfl) (ResAll.cons (Res1.box (p := 4) (i := 1) (o := 0) (agg := true) (by rfl) ag23 (by kernel_rfl) (fun h => by cases h) (Nat.le_of_ble_eq_true rfl) (v := .agg #[.int .i64 0, .int .i64 0]) (by kernel_rfl)) (ResAll.cons (Res1.tmp (t := 5) (v := .int .i64 2) (by kernel_rfl)) ResAll.nil)) (by kernel_rfl) (fun W hI => ⟨_, _, _, rfl, ⟨rfl, rfl, rfl⟩, (hI.less 1 rfl)⟩)
  · replace hc := (Bool.eq_false_iff.1 hc)
    rw [if_neg hc] at h
    have hc6 := hc
    clear hc
    refine WP.seqR ?_
    refine WL.pure 0 5 [0, 1, 4, 21, 25] (L' := [(0, .pointer (some ⟨b0, 0, none⟩)), (1, .int .i64 a1), (4, .pointer (some ⟨b1, 0, none⟩)), (21, .int .i64 a1), (25, .pointer (some ⟨b0, 0, none⟩))]) (by kernel_rfl) (by decide) ?_
    refine WL.tell (op := .load 3 (.tmp 25)) (ty := 3) (d := some 26) (g := none) (by kernel_rfl) (by kernel_rfl) (by kernel_rfl) (Tells.load_box (i := 1) (b := b0) (o := 0) (agg := false) (by rfl) ag3 (by kernel_rfl) (fun _ => rfl) (Nat.le_of_ble_eq_true rfl) (v := .int .i64 a0.f0) (by kernel_rfl)) ?_
    refine WL.restQ 6 [0, 1, 4, 20] (L' := [(0, .pointer (some ⟨b0, 0, none⟩)), (1, .int .i64 a1), (4, .pointer (some ⟨b1, 0, none⟩)), (20, .bool (decide (a1 > a0.f0)))]) (by kernel_rfl) ?_
    refine WP.cond (b := decide (a1 > a0.f0)) (by kernel_rfl) (fun hc => ?_) (fun hc => ?_)
    · replace hc := of_decide_eq_true hc
      rw [if_pos hc] at h
      have hc7 := hc
      clear hc
      refine WP.region ?_
      refine WL.pure 0 5 [0, 4, 30, 32] (L' := [(0, .pointer (some ⟨b0, 0, none⟩)), (4, .pointer (some ⟨b1, 0, none⟩)), (30, .agg #[.int .i64 a1, .int .i64 0]), (32, .pointer (some ⟨b0, 0, none⟩))]) (by kernel_rfl) (by decide) ?_
      refine WL.op (op := .store 23 (.tmp 32) (.tmp 30)) (ty := 0) (d := none) (g := none) (by kernel_rfl) (by kernel_rfl) (by kernel_rfl) (Does.store_box (i := 1) (b := b0) (o := 0) (v := .agg #[.int .i64 a1, .int .i64 0]) (by rfl) sz23 (by kernel_rfl) (by kernel_rfl) (by kernel_rfl) (Free.zero _) (Nat.le_of_ble_eq_true rfl) (cells' := #[.int .i64 a1, .int .i64 0]) (by kernel_rfl)) ?_
      rintro _ _ _ ⟨rfl, rfl, rfl⟩
      refine WL.rest 6 [0, 4] (L' := [(0, .pointer (some ⟨b0, 0, none⟩)), (4, .pointer (some ⟨b1, 0, none⟩))]) (by kernel_rfl) ?_
      refine QP.blockN ?_
      refine QP.next ?_
      refine WP.pick [0, 4] ?_
      refine WP.seqR ?_
      refine WL.pure 0 3 [4, 43] (L' := [(4, .pointer (some ⟨b1, 0, none⟩)), (43, .pointer (some ⟨b0, 0, none⟩))]) (by kernel_rfl) (by decide) ?_
      refine WL.tell (op := .load 23 (.tmp 43)) (ty := 23) (d := some 44) (g := none) (by kernel_rfl) (by kernel_rfl) (by kernel_rfl) (Tells.load_box (i := 1) (b := b0) (o := 0) (agg := true) (by rfl) ag23 (by kernel_rfl) (fun h => by cases h) (Nat.le_of_ble_eq_true rfl) (v := .agg #[.int .i64 a1, .int .i64 0]) (by kernel_rfl)) ?_
      refine WL.op (op := .store 23 (.tmp 4) (.tmp 44)) (ty := 0) (d := none) (g := none) (by kernel_rfl) (by kernel_rfl) (by kernel_rfl) (Does.store_box (i := 0) (b := b1) (o := 0) (v := .agg #[.int .i64 a1, .int .i64 0]) (by rfl) sz23 (by kernel_rfl) (by kernel_rfl) (by kernel_rfl) (Free.zero _) (Nat.le_of_ble_eq_true rfl) (cells' := #[.int .i64 a1, .int .i64 0]) (by kernel_rfl)) ?_
      rintro _ _ _ ⟨rfl, rfl, rfl⟩
      refine WL.restQ 5 [4, 5] (L' := [(4, .pointer (some ⟨b1, 0, none⟩)), (5, .int .i64 0)]) (by kernel_rfl) ?_
      refine WP.ret ?_
      obtain rfl := Option.some.inj h
      refine QP.front (i := 1) rfl ?_
      exact QP.returnedM (rs := [.cell 4 23, .tmp 5]) (by kernel_rfl) (ResAll.cons (Res1.box (p := 4) (i := 1) (o := 0) (agg := true) (by rfl) ag23 (by kernel_rfl) (fun h => by cases h) (Nat.le_of_ble_eq_true rfl) (v := .agg #[.int .i64 a1, .int .i64 0]) (by kernel_rfl)) (ResAll.cons (Res1.tmp (t := 5) (v := .int .i64 0) (by kernel_rfl)) ResAll.nil)) (by kernel_rfl) (fun W hI => ⟨_, _, _, rfl, ⟨rfl, rfl, rfl⟩, (hI.less 1 rfl)⟩)
    · replace hc := of_decide_eq_false hc
      rw [if_neg hc] at h
      have hc7 := hc
      clear hc
      refine WP.seqR ?_
      refine WL.pure 0 4 [0, 4, 37] (L' := [(0, .pointer (some ⟨b0, 0, none⟩)), (4, .pointer (some ⟨b1, 0, none⟩)), (37, .pointer (some ⟨b0, 1, none⟩))]) (by kernel_rfl) (by decide) ?_
      refine WL.tell (op := .load 3 (.tmp 37)) (ty := 3) (d := some 38) (g := none) (by kernel_rfl) (by kernel_rfl) (by kernel_rfl) (Tells.load_box (i := 1) (b := b0) (o := 1) (agg := false) (by rfl) ag3 (by kernel_rfl) (fun _ => rfl) (Nat.le_of_ble_eq_true rfl) (v := .int .i64 a0.f1) (by kernel_rfl)) ?_
      refine WL.restQ 5 [0, 4, 33] (L' := [(0, .pointer (some ⟨b0, 0, none⟩)), (4, .pointer (some ⟨b1, 0, none⟩)), (33, .bool (decide (a0.f1 ≥ 65535)))]) (by kernel_rfl) ?_
      refine WP.cond (b := decide (a0.f1 ≥ 65535)) (by kernel_rfl) (fun hc => ?_) (fun hc => ?_)
      · replace hc := of_decide_eq_true hc
        rw [if_pos hc] at h
        have hc8 := hc
        clear hc
        refine WP.seqR ?_
        refine WL.pure 0 1 [4, 40] (L' := [(4, .pointer (some ⟨b1, 0, none⟩)), (40, .agg #[.int .i64 0, .int .i64 0])]) (by kernel_rfl) (by decide) ?_
        refine WL.op (op := .store 23 (.tmp 4) (.tmp 40)) (ty := 0) (d := none) (g := none) (by kernel_rfl) (by kernel_rfl) (by kernel_rfl) (Does.store_box (i := 0) (b := b1) (o := 0) (v := .agg #[.int .i64 0, .int .i64 0]) (by rfl) sz23 (by kernel_rfl) (by kernel_rfl) (by kernel_rfl) (Free.zero _) (Nat.le_of_ble_eq_true rfl) (cells' := #[.int .i64 0, .int .i64 0]) (by kernel_rfl)) ?_
        rintro _ _ _ ⟨rfl, rfl, rfl⟩
        refine WL.restQ 2 [4, 5] (L' := [(4, .pointer (some ⟨b1, 0, none⟩)), (5, .int .i64 4)]) (by kernel_rfl) ?_
        refine WP.ret ?_
        refine QP.blockR ?_
        refine QP.thenR ?_
        obtain rfl := Option.some.inj h
        refine QP.front (i := 1) rfl ?_
        exact QP.returnedM (rs := [.cell 4 23, .tmp 5]) (by kernel_rfl) (ResAll.cons (Res1.box (p := 4) (i := 1) (o := 0) (agg := true) (by rfl) ag23 (by kernel_rfl) (fun h => by cases h) (Nat.le_of_ble_eq_true rfl) (v := .agg #[.int .i64 0, .int .i64 0]) (by kernel_rfl)) (ResAll.cons (Res1.tmp (t := 5) (v := .int .i64 4) (by kernel_rfl)) ResAll.nil)) (by kernel_rfl) (fun W hI => ⟨_, _, _, rfl, ⟨rfl, rfl, rfl⟩, (hI.less 1 rfl)⟩)
      · replace hc := of_decide_eq_false hc
        rw [if_neg hc] at h
        have hc8 := hc
        clear hc
        refine WP.region ?_
        refine WL.pure 0 4 [0, 4, 6, 9] (L' := [(0, .pointer (some ⟨b0, 0, none⟩)), (4, .pointer (some ⟨b1, 0, none⟩)), (6, .pointer (some ⟨b0, 0, none⟩)), (9, .pointer (some ⟨b0, 1, none⟩))]) (by kernel_rfl) (by decide) ?_
        refine WL.tell (op := .load 3 (.tmp 9)) (ty := 3) (d := some 10) (g := none) (by kernel_rfl) (by kernel_rfl) (by kernel_rfl) (Tells.load_box (i := 1) (b := b0) (o := 1) (agg := false) (by rfl) ag3 (by kernel_rfl) (fun _ => rfl) (Nat.le_of_ble_eq_true rfl) (v := .int .i64 a0.f1) (by kernel_rfl)) ?_
        refine WL.pure 5 9 [0, 4, 11, 14] (L' := [(0, .pointer (some ⟨b0, 0, none⟩)), (4, .pointer (some ⟨b1, 0, none⟩)), (11, .int .i64 (IntKind.i64.wrap (a0.f1 + 1))), (14, .pointer (some ⟨b0, 1, none⟩))]) (by kernel_rfl) (by decide) ?_
        refine WL.op (op := .store 3 (.tmp 14) (.tmp 11)) (ty := 0) (d := none) (g := none) (by kernel_rfl) (by kernel_rfl) (by kernel_rfl) (Does.store_box (i := 1) (b := b0) (o := 1) (v := .int .i64 (IntKind.i64.wrap (a0.f1 + 1))) (by rfl) sz3 (by kernel_rfl) (by kernel_rfl) (by kernel_rfl) (Free.zero _) (Nat.le_of_ble_eq_true rfl) (cells' := #[.int .i64 a0.f0, .int .i64 (IntKind.i64.wrap (a0.f1 + 1))]) (by kernel_rfl)) ?_
        rintro _ _ _ ⟨rfl, rfl, rfl⟩
        refine WL.rest 10 [0, 4] (L' := [(0, .pointer (some ⟨b0, 0, none⟩)), (4, .pointer (some ⟨b1, 0, none⟩))]) (by kernel_rfl) ?_
        refine QP.blockN ?_
        refine QP.next ?_
        refine WP.pick [0, 4] ?_
        refine WP.seqR ?_
        refine WL.pure 0 3 [4, 43] (L' := [(4, .pointer (some ⟨b1, 0, none⟩)), (43, .pointer (some ⟨b0, 0, none⟩))]) (by kernel_rfl) (by decide) ?_
        refine WL.tell (op := .load 23 (.tmp 43)) (ty := 23) (d := some 44) (g := none) (by kernel_rfl) (by kernel_rfl) (by kernel_rfl) (Tells.load_box (i := 1) (b := b0) (o := 0) (agg := true) (by rfl) ag23 (by kernel_rfl) (fun h => by cases h) (Nat.le_of_ble_eq_true rfl) (v := .agg #[.int .i64 a0.f0, .int .i64 (IntKind.i64.wrap (a0.f1 + 1))]) (by kernel_rfl)) ?_
        refine WL.op (op := .store 23 (.tmp 4) (.tmp 44)) (ty := 0) (d := none) (g := none) (by kernel_rfl) (by kernel_rfl) (by kernel_rfl) (Does.store_box (i := 0) (b := b1) (o := 0) (v := .agg #[.int .i64 a0.f0, .int .i64 (IntKind.i64.wrap (a0.f1 + 1))]) (by rfl) sz23 (by kernel_rfl) (by kernel_rfl) (by kernel_rfl) (Free.zero _) (Nat.le_of_ble_eq_true rfl) (cells' := #[.int .i64 a0.f0, .int .i64 (IntKind.i64.wrap (a0.f1 + 1))]) (by kernel_rfl)) ?_
        rintro _ _ _ ⟨rfl, rfl, rfl⟩
        refine WL.restQ 5 [4, 5] (L' := [(4, .pointer (some ⟨b1, 0, none⟩)), (5, .int .i64 0)]) (by kernel_rfl) ?_
        refine WP.ret ?_
        obtain rfl := Option.some.inj h
        refine QP.front (i := 1) rfl ?_
        exact QP.returnedM (rs := [.cell 4 23, .tmp 5]) (by kernel_rfl) (ResAll.cons (Res1.box (p := 4) (i := 1) (o := 0) (agg := true) (by rfl) ag23 (by kernel_rfl) (fun h => by cases h) (Nat.le_of_ble_eq_true rfl) (v := .agg #[.int .i64 a0.f0, .int .i64 (IntKind.i64.wrap (a0.f1 + 1))]) (by kernel_rfl)) (ResAll.cons (Res1.tmp (t := 5) (v := .int .i64 0) (by kernel_rfl)) ResAll.nil)) (by kernel_rfl) (fun W hI => ⟨_, _, _, rfl, ⟨rfl, rfl, rfl⟩, (hI.less 1 rfl)⟩)

/-! ### (*grapevine/stamp.Clock).Tick: function 29 -/
def stamp_Clock_Tick_22 (a1 : Int) : Option (T23 × Int) := some ((⟨0, 0⟩ : T23), 1)
set_option maxHeartbeats 4000000 in
theorem stamp_Clock_Tick_22_calls {B : World} {G : GMap} {Γ : List Chunk} {W : World} (a1 : Int) (r : T23 × Int) (h : stamp_Clock_Tick_22 a1 = some r) (hI : Inv B G (Γ) W) :
    Calls Try.prog 29 [.pointer none, .int .i64 a1].toArray W (Ret B (fun v G' Γ' => v = .tuple #[.agg #[.int .i64 r.1.f0, .int .i64 r.1.f1], .int .i64 r.2] ∧ G = G' ∧ Γ = Γ')) := by
  refine calls_WP (Γ := Γ) (G := G) (B := B) Try.func29 rfl (by kernel_rfl) ?_ hI
  clear hI
  unfold stamp_Clock_Tick_22 at h
  refine WP.seqR ?_
  refine WL.op (op := .alloc 23) (ty := 0) (d := some 4) (g := none) (by kernel_rfl) (by kernel_rfl) (by kernel_rfl) (Does.new (o := .cells #[.int .i64 0, .int .i64 0] 23 (0, 0)) (v := fun r => .pointer (some ⟨r, 0, none⟩)) (fun r => by kernel_rfl)) ?_
  rintro _ _ _ ⟨b1, rfl, rfl, rfl⟩
  refine WL.restQ 1 [0, 1, 4] (L' := [(0, .pointer none), (1, .int .i64 a1), (4, .pointer (some ⟨b1, 0, none⟩))]) (by kernel_rfl) ?_
  refine WP.seq ?_
  refine WP.block ?_
  refine WP.seqP [0, 1, 4, 8] (L' := [(0, .pointer none), (1, .int .i64 a1), (4, .pointer (some ⟨b1, 0, none⟩)), (8, .bool true)]) (by kernel_rfl) ?_
  refine WP.yes (by kernel_rfl) ?_
  refine WP.seqR ?_
  refine WL.pure 0 1 [4, 11] (L' := [(4, .pointer (some ⟨b1, 0, none⟩)), (11, .agg #[.int .i64 0, .int .i64 0])]) (by kernel_rfl) (by decide) ?_
  refine WL.op (op := .store 23 (.tmp 4) (.tmp 11)) (ty := 0) (d := none) (g := none) (by kernel_rfl) (by kernel_rfl) (by kernel_rfl) (Does.store_box (i := 0) (b := b1) (o := 0) (v := .agg #[.int .i64 0, .int .i64 0]) (by rfl) sz23 (by kernel_rfl) (by kernel_rfl) (by kernel_rfl) (Free.zero _) (Nat.le_of_ble_eq_true rfl) (cells' := #[.int .i64 0, .int .i64 0]) (by kernel_rfl)) ?_
  rintro _ _ _ ⟨rfl, rfl, rfl⟩
  refine WL.restQ 2 [4, 5] (L' := [(4, .pointer (some ⟨b1, 0, none⟩)), (5, .int .i64 1)]) (by kernel_rfl) ?_
  refine WP.ret ?_
  refine QP.blockR ?_
  refine QP.thenR ?_
  obtain rfl := Option.some.inj h
  exact QP.returnedM (rs := [.cell 4 23, .tmp 5]) (by kernel_rfl) (ResAll.cons (Res1.box (p := 4) (i := 0) (o := 0) (agg := true) (by rfl) ag23 (by kernel_rfl) (fun h => by cases h) (Nat.le_of_ble_eq_true rfl) (v := .agg #[.int .i64 0, .int .i64 0]) (by kernel_rfl)) (ResAll.cons (Res1.tmp (t := 5) (v := .int .i64 1) (by kernel_rfl)) ResAll.nil)) (by kernel_rfl) (fun W hI => ⟨_, _, _, rfl, ⟨rfl, rfl, rfl⟩, (hI.less 0 rfl)⟩)

/-! ### (*grapevine/stamp.Clock).See: function 27 -/
def stamp_Clock_See_23 (a1 : T23) (a2 : Int) : Option Int := some 1
set_option maxHeartbeats 4000000 in
theorem stamp_Clock_See_23_calls {B : World} {G : GMap} {Γ : List Chunk} {W : World} (a1 : T23) (a2 : Int) (r : Int) (h : stamp_Clock_See_23 a1 a2 = some r) (hI : Inv B G (Γ) W) :
    Calls Try.prog 27 [.pointer none, .agg #[.int .i64 a1.f0, .int .i64 a1.f1], .int .i64 a2].toArray W (Ret B (fun v G' Γ' => v = .int .i64 r ∧ G = G' ∧ Γ = Γ')) := by
  refine calls_WP (Γ := Γ) (G := G) (B := B) Try.func27 rfl (by kernel_rfl) ?_ hI
  clear hI
  unfold stamp_Clock_See_23 at h
  refine WP.seqR ?_
  refine WL.op (op := .box 23 (.tmp 1)) (ty := 0) (d := some 4) (g := none) (by kernel_rfl) (by kernel_rfl) (by kernel_rfl) (Does.new (o := .cells #[.int .i64 a1.f0, .int .i64 a1.f1] 23 (0, 0)) (v := fun r => .pointer (some ⟨r, 0, none⟩)) (fun r => by kernel_rfl)) ?_
  rintro _ _ _ ⟨b1, rfl, rfl, rfl⟩
  refine WL.restQ 1 [0, 2, 4] (L' := [(0, .pointer none), (2, .int .i64 a2), (4, .pointer (some ⟨b1, 0, none⟩))]) (by kernel_rfl) ?_
  refine WP.seq ?_
  refine WP.block ?_
  refine WP.seqP [0, 2, 4, 8] (L' := [(0, .pointer none), (2, .int .i64 a2), (4, .pointer (some ⟨b1, 0, none⟩)), (8, .bool true)]) (by kernel_rfl) ?_
  refine WP.yes (by kernel_rfl) ?_
  refine WP.seqP [6] (L' := [(6, .int .i64 1)]) (by kernel_rfl) ?_
  refine WP.dropAt 0 ?_
  refine WP.ret ?_
  refine QP.blockR ?_
  refine QP.thenR ?_
  obtain rfl := Option.some.inj h
  exact QP.returned [6] [.int .i64 1] _ (by kernel_rfl) (by kernel_rfl) (by kernel_rfl) (fun W hI => ⟨_, _, _, rfl, ⟨rfl, rfl, rfl⟩, hI⟩)

/-! ### (*grapevine/stamp.Clock).Last: function 25 -/
def stamp_Clock_Last_24 : Option T23 := some (⟨0, 0⟩ : T23)
set_option maxHeartbeats 4000000 in
theorem stamp_Clock_Last_24_calls {B : World} {G : GMap} {Γ : List Chunk} {W : World} (r : T23) (h : stamp_Clock_Last_24  = some r) (hI : Inv B G (Γ) W) :
    Calls Try.prog 25 [.pointer none].toArray W (Ret B (fun v G' Γ' => v = .agg #[.int .i64 r.f0, .int .i64 r.f1] ∧ G = G' ∧ Γ = Γ')) := by
  refine calls_WP (Γ := Γ) (G := G) (B := B) Try.func25 rfl (by kernel_rfl) ?_ hI
  clear hI
  unfold stamp_Clock_Last_24 at h
  refine WP.seqR ?_
  refine WL.op (op := .alloc 23) (ty := 0) (d := some 2) (g := none) (by kernel_rfl) (by kernel_rfl) (by kernel_rfl) (Does.new (o := .cells #[.int .i64 0, .int .i64 0] 23 (0, 0)) (v := fun r => .pointer (some ⟨r, 0, none⟩)) (fun r => by kernel_rfl)) ?_
  rintro _ _ _ ⟨b1, rfl, rfl, rfl⟩
  refine WL.restQ 1 [0, 2] (L' := [(0, .pointer none), (2, .pointer (some ⟨b1, 0, none⟩))]) (by kernel_rfl) ?_
  refine WP.seq ?_
  refine WP.seqP [0, 2, 4] (L' := [(0, .pointer none), (2, .pointer (some ⟨b1, 0, none⟩)), (4, .bool true)]) (by kernel_rfl) ?_
  refine WP.yes (by kernel_rfl) ?_
  refine WP.seqR ?_
  refine WL.pure 0 1 [2, 5] (L' := [(2, .pointer (some ⟨b1, 0, none⟩)), (5, .agg #[.int .i64 0, .int .i64 0])]) (by kernel_rfl) (by decide) ?_
  refine WL.op (op := .store 23 (.tmp 2) (.tmp 5)) (ty := 0) (d := none) (g := none) (by kernel_rfl) (by kernel_rfl) (by kernel_rfl) (Does.store_box (i := 0) (b := b1) (o := 0) (v := .agg #[.int .i64 0, .int .i64 0]) (by rfl) sz23 (by kernel_rfl) (by kernel_rfl) (by kernel_rfl) (Free.zero _) (Nat.le_of_ble_eq_true rfl) (cells' := #[.int .i64 0, .int .i64 0]) (by kernel_rfl)) ?_
  rintro _ _ _ ⟨rfl, rfl, rfl⟩
  refine WL.restQ 2 [2] (L' := [(2, .pointer (some ⟨b1, 0, none⟩))]) (by kernel_rfl) ?_
  refine WP.ret ?_
  refine QP.thenR ?_
  obtain rfl := Option.some.inj h
  exact QP.returnedM (rs := [.cell 2 23]) (by kernel_rfl) (ResAll.cons (Res1.box (p := 2) (i := 0) (o := 0) (agg := true) (by rfl) ag23 (by kernel_rfl) (fun h => by cases h) (Nat.le_of_ble_eq_true rfl) (v := .agg #[.int .i64 0, .int .i64 0]) (by kernel_rfl)) ResAll.nil) (by kernel_rfl) (fun W hI => ⟨_, _, _, rfl, ⟨rfl, rfl, rfl⟩, (hI.less 0 rfl)⟩)

/-! ### grapevine/grapevinelaw0.Low: function 31 -/
def grapevinelaw0_Low (a0 : Int) (a1 : Int) : Option Int := (if ¬ (IntKind.u64.wrap a1) = 0 then some (IntKind.i64.wrap (Int.tmod (IntKind.u64.wrap a0) (IntKind.u64.wrap a1))) else none)
set_option maxHeartbeats 4000000 in
theorem grapevinelaw0_Low_calls {B : World} {G : GMap} {Γ : List Chunk} {W : World} (a0 : Int) (a1 : Int) (r : Int) (h : grapevinelaw0_Low a0 a1 = some r) (hI : Inv B G (Γ) W) :
    Calls Try.prog 31 [.int .i64 a0, .int .i64 a1].toArray W (Ret B (fun v G' Γ' => v = .int .i64 r ∧ G = G' ∧ Γ = Γ')) := by
  refine calls_WP (Γ := Γ) (G := G) (B := B) Try.func31 rfl (by kernel_rfl) ?_ hI
  clear hI
  unfold grapevinelaw0_Low at h
  refine WP.seqP [0, 1] (L' := [(0, .int .i64 a0), (1, .int .i64 a1)]) (by kernel_rfl) ?_
  refine WP.seqR ?_
  refine WL.pure 0 4 [6, 8] (L' := [(6, .int .u64 (IntKind.u64.wrap a0)), (8, .int .u64 (IntKind.u64.wrap a1))]) (by kernel_rfl) (by decide) ?_
  by_cases hb1 : ¬ (IntKind.u64.wrap a1) = 0
  case neg => rw [if_neg hb1] at h; cases h
  rw [if_pos hb1] at h
  refine WL.tell (op := .binOp .rem 83 (.tmp 6) (.tmp 8) 83) (ty := 83) (d := some 9) (g := none) (by kernel_rfl) (by kernel_rfl) (by kernel_rfl) (Tells.rem (k := .u64) (a := (IntKind.u64.wrap a0)) (b := (IntKind.u64.wrap a1)) (by kernel_rfl) (by kernel_rfl) hb1) ?_
  refine WL.restQ 5 [4] (L' := [(4, .int .i64 (IntKind.i64.wrap (Int.tmod (IntKind.u64.wrap a0) (IntKind.u64.wrap a1))))]) (by kernel_rfl) ?_
  refine WP.ret ?_
  obtain rfl := Option.some.inj h
  exact QP.returned [4] [.int .i64 (IntKind.i64.wrap (Int.tmod (IntKind.u64.wrap a0) (IntKind.u64.wrap a1)))] _ (by kernel_rfl) (by kernel_rfl) (by kernel_rfl) (fun W hI => ⟨_, _, _, rfl, ⟨rfl, rfl, rfl⟩, hI⟩)
end Go.Proofs.Ytmphcmgbognmnaa.Gf
